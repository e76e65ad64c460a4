/- packs in plain Lean: lists of carts by keys: their order, what is found, what another cart makes of them -/
import Derived.Test.YtkgploeegbmofaaGreatOVA06
import Derived.Test.YtkgploeegbmofaaGreatOVA05
import Derived.Test.YtkgploeegbmofaaGreatOVA23
import Derived.Test.YtkgploeegbmofaaGreatOVA01
import Derived.Test.YtkgploeegbmofaaGreatOVA02
namespace Go.Proofs.YtkgploeegbmofaaGreat.Wi
open Go Go.RowKit Go.Aw Go.Aw.Cart Go.Proofs.YtkgploeegbmofaaGreat.Ca
set_option linter.unusedVariables false
set_option linter.unusedSimpArgs false
theorem bLt_trans:∀ {a b c:List Nat},bLt a b=true→bLt b c=true→bLt a c=true
 | [],[],_,h,_=>by cases h
 | [],_::_,[],_,h=>by cases h
 | [],_::_,_::_,_,_=>rfl
 | _::_,[],_,h,_=>by cases h
 | _::_,_::_,[],_,h=>by cases h
 | x::a,y::b,z::c,h1,h2=>by
  rw [bLt] at h1 h2 ⊢
  by_cases hxy:x=y
  ·subst hxy
   rw [if_pos rfl] at h1
   by_cases hxz:x=z
   ·subst hxz
    rw [if_pos rfl] at h2 ⊢
    exact bLt_trans h1 h2
   ·rw [if_neg hxz] at h2 ⊢
    exact h2
  ·rw [if_neg hxy] at h1
   have h1:=of_decide_eq_true h1
   by_cases hyz:y=z
   ·subst hyz
    rw [if_neg hxy]
    exact decide_eq_true h1
   ·rw [if_neg hyz] at h2
    have h2:=of_decide_eq_true h2
    rw [if_neg (by omega)]
    exact decide_eq_true (by omega)
structure KOk (l:List Kd):Prop where
 few:l.length≤2000
 up:l.Pairwise fun a b=>bLt a.1 b.1=true
 key:∀ e∈l,e.1.length≤20
 cart:∀ e∈l,rightF e.2.1 e.2.2=true
theorem adj_kd {l:List Kd} (h:∀ i,0 < i→i < l.length→bLt (l.getD (i - 1) default).1 (l.getD i default).1=true):l.Pairwise fun a b=>bLt a.1 b.1=true:=by
 have key:∀ j,j < l.length→∀ i,i < j→bLt (l.getD i default).1 (l.getD j default).1=true:=by
  intro j
  induction j with
  | zero=>intro _ i hi;omega
  | succ j ih=>
   intro hj i hi
   have h1:=h (j+1) (by omega) hj
   rw [Nat.add_sub_cancel] at h1
   by_cases e:i=j
   ·rw [e];exact h1
   ·exact bLt_trans (ih (by omega) i (by omega)) h1
 rw [List.pairwise_iff_getElem]
 intro i j hi hj hij
 have:=key j hj i hij
 rwa [getD_at hi,getD_at hj] at this
theorem keys_iff {l:List Kd}:keysF l=true↔KOk l:=by
 unfold keysF kdOk
 rw [decide_eq_true_eq]
 constructor
 ·rintro ⟨h1,h2⟩
  have h3:=fun i hi=>h2 i hi
  simp only [Bool.and_eq_true,Bool.or_eq_true,decide_eq_true_eq] at h3
  refine ⟨h1,adj_kd fun i h0 hi=>((h3 i hi).2.1).resolve_left (by omega),fun e he=>?_,fun e he=>?_⟩
  ·obtain ⟨i,hi,rfl⟩:=getD_mem he
   exact (h3 i hi).1
  ·obtain ⟨i,hi,rfl⟩:=getD_mem he
   exact (h3 i hi).2.2
 ·rintro ⟨h1,h2,h3,h4⟩
  refine ⟨h1,fun i hi=>?_⟩
  simp only [Bool.and_eq_true,Bool.or_eq_true,decide_eq_true_eq]
  have hm:l.getD i default∈l:=by rw [getD_at hi];exact List.getElem_mem _
  refine ⟨h3 _ hm,?_,h4 _ hm⟩
  by_cases h0:i=0
  ·exact .inl h0
  ·right
   rw [getD_at hi,getD_at (show i - 1 < l.length by omega)]
   exact List.pairwise_iff_getElem.1 h2 (i - 1) i (by omega) hi (by omega)
end Go.Proofs.YtkgploeegbmofaaGreat.Wi
namespace Go.Aw
open Go Go.RowKit
set_option linter.unusedVariables false
set_option linter.unusedSimpArgs false
theorem All2.set {α β:Type} {R:α→β→Prop} {l:List α} {m:List β} (h:All2 R l m) (i:Nat) {a:α} {b:β} (hab:R a b):All2 R (l.set i a) (m.set i b):=by
 refine ⟨by simp [h.1],fun j x y hx hy=>?_⟩
 rw [List.getElem?_set] at hx hy
 by_cases hij:i=j
 ·subst hij
  rw [if_pos rfl] at hx hy
  split at hx
  ·rw [if_pos (by rw [← h.1];assumption)] at hy
   cases hx;cases hy;exact hab
  ·cases hx
 ·rw [if_neg hij] at hx hy
  exact h.2 j x y hx hy
theorem ObjG.drew {mem:Nat→Nat × Option MO} {w:World} {G:Gh} (ho:ObjG mem w G):ObjG mem w.drew G:={
 gens:=ho.gens
 mem:=fun x n mo hx=>by
  obtain ⟨g2,m2,h1,h2,h3⟩:=ho.mem x n mo hx
  exact ⟨g2,m2,h1,h2,h3.mono (Mu.le.refl _) (fun b hb=>⟨hb,rfl⟩) fun _ _=>rfl⟩
 apart:=ho.apart
 stab:=ho.stab
 own:=ho.own
 sbd:=ho.sbd }
theorem RelG.mem' {C:Ctx} {σ:St} {a:Act} {w:World} {G:Gh} (h:RelG C σ a w G) {o n:Nat} {mo mo':MO} (hm:σ.mem o=(n,some mo)) (hh:∀ μ X m fp,mo.holds μ X m fp→(μ o).length=n→(∀ g,n=g+1→(μ o)[g]?=some m)→mo'.holds μ X m fp):∃ G',RelG C (σ.put o (n,some mo')) a w G':=by
 have hlen:(G.μ o).length=n:=by have:=h.gens o;rw [hm] at this;exact this
 obtain ⟨g',m,hg,hmm,hx⟩:=h.mem o _ _ hm
 have eμ:(fun x=>if x=o then G.μ o else G.μ x)=G.μ:=by funext x;split<;>simp_all
 refine ⟨_,h.upd (o:=o) (n':=n) (mo':=some mo') (μo:=G.μ o) (fp':=G.φ o) (w':=w) (fun g x hx=>hx) hlen rfl .same rfl (Nat.le_refl _) (fun _ _ _=>rfl) (fun b hb=>⟨.inl hb,(h.own o b hb).2⟩) (fun mo1 hmo=>?_)⟩
 obtain rfl:=Option.some.inj hmo
 refine ⟨g',m,hg,hmm,?_⟩
 rw [eμ]
 exact hh _ _ _ _ hx hlen fun g hgn=>by
  (obtain rfl:g'=g:=by omega);exact hmm
def MV (mo:MO):Prop:=∀ μ X Y m fp,X.w=Y.w→mo.holds μ X m fp→mo.holds μ Y m fp
theorem MV.buf {ty es:Nat} {α:Type} {l:List α} {f:α→List Value}:MV (.buf ty es (l.map fun x=>(f x).map PVal.v)):=by
 rintro μ X Y m fp hw ⟨h1,h2,h3,h4⟩
 refine ⟨h1,h2,h3,?_⟩
 rcases h4 with h4 | ⟨b,arr,k1,k2,k3,k4,k5⟩
 ·exact .inl h4
 ·refine .inr ⟨b,arr,k1,k2,by rw [← hw];exact k3,k4,fun i row hr=>⟨(k5 i row hr).1,fun j p hp=>?_⟩⟩
  obtain ⟨c,hc,hh⟩:=(k5 i row hr).2 j p hp
  refine ⟨c,hc,?_⟩
  rw [List.getElem?_map] at hr
  cases hx:l[i]? with
  | none=>rw [hx] at hr;cases hr
  | some x=>
   rw [hx] at hr;simp at hr;subst hr
   rw [List.getElem?_map] at hp
   cases hy:(f x)[j]? with
   | none=>rw [hy] at hp;cases hp
   | some y=>rw [hy] at hp;simp at hp;subst hp;exact hh
theorem MO.holds.fp {μ:Mu} {X:Wd} {ty:TypeId} {cs:List AC} {m:Option Nat × Nat} {fp:List Nat} (h:(MO.box ty cs).holds μ X m fp):∃ b,m.1=some b∧fp=[b]:=by
 obtain ⟨b,arr,h1,h2,_⟩:=h;exact ⟨b,h1,h2⟩
theorem aws_sm {C:Ctx} {σ:St} {k:List Code} {c:Code} {Q:Exit→St→Prop} (e:List (Nat × AV)) (m:List (Nat × (Nat × Option MO))) (he:Knows σ.env e) (hm:Knows σ.mem m) (h:∀ ν:Nat→Nat,AWs C (c::k) Q ⟨ovl e fun _=>.un,ovl m fun o=>(ν o,none)⟩):AWs C (c::k) Q σ:=by
 intro a w ⟨G,hG⟩
 have ke:∀ (e:List (Nat × AV)),Knows σ.env e→∀ t,ovl e (fun _=>AV.un) t=σ.env t∨ovl e (fun _=>AV.un) t=.un:=by
  intro e he
  induction he with
  | nil=>exact fun t=>.inr rfl
  | cons hv hl ih=>
   intro t
   simp only [ovl]
   split
   ·rename_i ht;rw [ht];exact .inl hv.symm
   ·exact ih t
 have km:∀ (m:List (Nat × (Nat × Option MO))),Knows σ.mem m→∀ o,ovl m (fun o=>((σ.mem o).1,(none:Option MO))) o=σ.mem o∨ovl m (fun o=>((σ.mem o).1,(none:Option MO))) o=((σ.mem o).1,none):=by
  intro m hm
  induction hm with
  | nil=>exact fun t=>.inr rfl
  | cons hv hl ih=>
   intro t
   simp only [ovl]
   split
   ·rename_i ht;rw [ht];exact .inl hv.symm
   ·exact ih t
 refine h (fun o=>(σ.mem o).1) a w ⟨G,?_⟩
 exact {
  size:=hG.size
  defers:=hG.defers
  dnod:=hG.dnod
  mle:=hG.mle
  env:=fun t=>by
   show (ovl e (fun _=>AV.un) t).holds _ _ _
   rcases ke e he t with k|k<;>rw [k]
   ·exact hG.env t
   ·trivial
  gens:=fun o=>by
   show _=(ovl m (fun o=>((σ.mem o).1,(none:Option MO))) o).1
   rcases km m hm o with k|k<;>rw [k]
   ·exact hG.gens o
   ·exact hG.gens o
  mem:=fun o n mo ho=>by
   have ho:ovl m (fun o=>((σ.mem o).1,(none:Option MO))) o=(n,some mo):=ho
   rcases km m hm o with k|k<;>rw [k] at ho
   ·exact hG.mem o n mo ho
   ·simp at ho
  apart:=hG.apart
  stab:=hG.stab
  own:=hG.own
  sbd:=hG.sbd
  ssub:=hG.ssub
  fr:=hG.fr }
section ops
variable {C:Ctx} {o:Oper} {σ:St}
theorem lop_len_sb {T:TypeId} {x:Operand} {sz by_:Nat} {b:List Nat} (ho:o.op=.call ⟨.builtin .len,#[x],#[T]⟩) (hT:TI C.P T .string sz by_) (hx:σ.look x=.p (.v (.string (strOf b)))) (hd:dOk C o.dst=true) :
  LOp C o σ ⟨.p (.i b.length),[]⟩ (fun _=>false):=by
 have:=lop_len_str (hT:=hT) ho hx hd
 rwa [strOf_size] at this
theorem lop_ix_sb {T:TypeId} {x ix:Operand} {sz by_:Nat} {b:List Nat} {k:IntKind} {i:Int} (ho:o.op=.index T x ix) (hT:TI C.P T .string sz by_) (hx:σ.look x=.p (.v (.string (strOf b)))) (hb:okB b) (hi:σ.look ix=.p (.v (.int k i))) (h0:0≤i) (h1:i < b.length) (hd:dOk C o.dst=true) :
  LOp C o σ ⟨.p (.k .u8 (b.getD i.toNat default:Nat)),[]⟩ (fun _=>false):=
 lop_val hd fun τ a w G hl' hm' h=>by
  have e1:=val_of h ((hl' x (by simp [ho,Op.operands])).trans hx)
  have e2:=val_of h ((hl' ix (by simp [ho,Op.operands])).trans hi)
  obtain ⟨d,hdd,hkk⟩:=hT.undd
  have:d=.string:=by cases d<;>simp [TK.of] at hkk;rfl
  subst this
  have hlt:i.toNat < b.length:=by omega
  have hbd:0≤i∧i < ((strOf b).size:Int):=by rw [strOf_size];exact ⟨h0,h1⟩
  have hlt2:i.toNat < (strOf b).size:=by rw [strOf_size];exact hlt
  have hg:(strOf b)[i.toNat]=UInt8.ofNat b[i.toNat]:=by
   show ((b.map UInt8.ofNat).toArray)[i.toNat]'(by simpa using hlt)=_
   simp
  have hby:(((strOf b)[i.toNat]).toNat:Int)=((b.getD i.toNat default:Nat):Int):=by
   rw [hg,List.getD_eq_getElem?_getD,List.getElem?_eq_getElem hlt]
   have:=hb b[i.toNat] (List.getElem_mem _)
   simp;omega
  refine ⟨.int .u8 (((strOf b)[i.toNat]).toNat:Int),?_,by rw [hby],rfl⟩
  simp [execOp,ho,e1,e2,Instr.index,asIntOf,run_underlying hdd,h0,hlt2]
end ops
end Go.Aw
namespace Go.Proofs.YtkgploeegbmofaaGreat.Wi
open Go Go.RowKit Go.Aw Go.Aw.Cart Go.Proofs.YtkgploeegbmofaaGreat.Ca
set_option linter.unusedVariables false
set_option linter.unusedSimpArgs false
theorem kd_back {k:Kd} (hl:k.1.length≤20) (hr:rightF k.2.1 k.2.2=true) (hv:vecOk k.2.1) (q:List Nat):kdS (kdB k++q,0)=(k,(q,0)):=by
 unfold kdB
 rw [List.append_assoc]
 simp only [kdS,bindS,pureS,text_back (b:=k.1) (most:=20) (by omega) (by decide),cart_back (c:=k.2) hr hv]
theorem list_back {l:List Kd} (h:KOk l) (hv:∀ k∈l,vecOk k.2.1) (q:List Nat):listS (listB l++q,0)=(l,(q,0)):=by
 have hm:=many_back (P:=kdS) (enc:=kdB) (L:=l) (fun a ha q=>kd_back (h.key a ha) (h.cart a ha) (hv a ha) q) q l.length (Nat.le_refl _)
 unfold listB
 rw [List.append_assoc]
 simp only [listS,bindS,small_back (x:=l.length) (most:=2000) (by have:=h.few;omega) (by decide),Int.toNat_natCast,hm,List.take_length,List.drop_length,List.flatMap_nil,List.nil_append]
theorem readL_back {l:List Kd} (h:KOk l) (hv:∀ k∈l,vecOk k.2.1):readL (listB l)=(l,0):=by
 have:=list_back h hv []
 rw [List.append_nil] at this
 unfold readL
 rw [this,if_neg]
 rintro (h1|h1)
 ·exact h1 rfl
 ·rw [keys_iff.2 h] at h1;cases h1
def c10:Crt:=([1,0,0,0,0,0,0,0],[(5,1,1,2)])
end Go.Proofs.YtkgploeegbmofaaGreat.Wi
namespace Go.Proofs.YtkgploeegbmofaaGreat.Sh
open Go Go.RowKit Go.Aw Go.Aw.Sha
set_option linter.unusedVariables false
set_option linter.unusedSimpArgs false
set_option maxRecDepth 8000
theorem grow_c (n:Int) (h:0≤n∧n≤1000000000000):OCall Tryz.prog 190 [.p (.v (.slice none 0 0)),.p (.i n)] (fun _=>(0,none)) (.o (.osl 22 0 1 0 0)) (memL [(22,(1,some (.buf 5 1 [])))]):=by
 refine ocall_ofF 22 Tryz.func190 rfl (fun w0 F S0 M0=>?_)
 repeat' (first|refine jx11 ?_|refine jy0 ?_ ?_|exact spF|refine spQ fun hq hq'=>?_|refine spN fun hn=>?_|fail)
 ·exfalso;omega
 ·refine rn_any (gd_n rfl rfl) rfl (lop_cap_nil rfl rfl rfl) ?_
  repeat' (first|refine jx11 ?_|refine jy2 ?_ ?_|exact spF|refine spQ fun hq hq'=>?_|fail)
  refine ifB (h1:=?_) (h2:=?_)<;>(intro hq;simp only [hqs] at hq)
  ·repeat' (first|refine jx11 ?_|refine jy0 ?_ ?_|exact spF|refine spQ fun hq hq'=>?_|refine spN fun hn=>?_|fail)
   refine rn_any (gd_n rfl rfl) rfl (lop_cap_nil rfl rfl rfl) ?_
   refine rn_any (gd_n rfl rfl) rfl (lop_sl_n0 rfl rfl rfl rfl) ?_
   repeat' (first|refine jx11 ?_|refine jy0 ?_ ?_|exact spF|refine spQ fun hq hq'=>?_|refine spN fun hn=>?_|fail)
   refine rn_any (gd_n rfl rfl) rfl (lop_ap_z (m:=n.toNat) rfl rfl rfl rfl (by omega) rfl (by decide) rfl (by omega) (by simp only [maxLen];omega) (by omega) rfl) ?_
   repeat' (first|refine jx11 ?_|refine jy0 ?_ ?_|exact spF|refine spQ fun hq hq'=>?_|refine spN fun hn=>?_|fail)
   refine rn_any (gd_n rfl rfl) rfl (lop_sl_oh rfl rfl rfl (by omega) (by omega) rfl) ?_
   repeat' (first|refine jx11 ?_|refine jy0 ?_ ?_|exact spF|refine spQ fun hq hq'=>?_|refine spN fun hn=>?_|fail)
   exact RetO.mk (ot1 rfl rfl (.one (.kosl rfl)) rfl) ⟨.buf,trivial⟩
  ·refine aws_says (says_nil (t:=0) (o:=22) (ty:=5) (es:=1) rfl rfl (by decide)) ?_
   repeat' (first|refine jx11 ?_|refine jy0 ?_ ?_|exact spF|refine spQ fun hq hq'=>?_|refine spN fun hn=>?_|fail)
   exact RetO.mk (ot1 rfl rfl (.one (.kosl rfl)) rfl) ⟨.buf,trivial⟩
instance {c k:Nat} {n:Int}:OC Tryz.prog 190 [.p (.v (.slice none 0 0)),.p (.i n)] [] [(c,k)] (0≤n∧n≤1000000000000) (.o (.osl c k 1 0 0)) [(c,(k+1,some (.buf 5 1 [])))]:=⟨fun h=>(grow_c n h).fresh1 c k⟩
abbrev pieceR (p:List Nat × Bool):List PVal:=[PVal.sl 1 (p.1.map fun n:Nat=>[PVal.k .u8 (n:Int)]) p.2]
abbrev pieces (ls:List (List Nat × Bool)) (ex:Bool):AV:=.p (.sl 1 (ls.map pieceR) ex)
def flat (ls:List (List Nat × Bool)) (i:Nat):List Nat:=(ls.take i).flatMap (·.1)
theorem flat_succ (ls:List (List Nat × Bool)) {i:Nat} (h:i < ls.length):flat ls (i+1)=flat ls i++(ls.getD i default).1:=by
 unfold flat
 rw [List.take_succ_eq_append_getElem h,List.flatMap_append]
 simp [List.getD_eq_getElem?_getD,h]
theorem flat_all (ls:List (List Nat × Bool)):flat ls ls.length=ls.flatMap (·.1):=by unfold flat;rw [List.take_length]
theorem flat_le (ls:List (List Nat × Bool)) (i:Nat):(flat ls i).length≤(ls.flatMap (·.1)).length:=by
 conv=>rhs;rw [← List.take_append_drop i ls,List.flatMap_append,List.length_append]
 exact Nat.le_add_right _ _
theorem concat_c (ls:List (List Nat × Bool)) (ex:Bool) (h:(ls.flatMap (·.1)).length≤1000000000∧ls.length≤1000000000) :
  OCall Tryz.prog 174 [pieces ls ex] (fun _=>(0,none)) (.o (.osl 24 ls.length 1 0 (ls.flatMap (·.1)).length)) (memL [(24,(ls.length+1,some (.buf 5 1 ((ls.flatMap (·.1)).map fun n:Nat=>[PVal.k .u8 (n:Int)]))))]):=by
 refine ocall_ofF 24 Tryz.func174 rfl (fun w0 F S0 M0=>?_)
 obtain ⟨hf,hl⟩:=h
 repeat' (first|refine jx11 ?_|refine jy0 ?_ ?_|exact spF|refine spQ fun hq hq'=>?_|refine spN fun hn=>?_|fail)
 refine aws_loopS [3,5,11,12,13,14,15,16,17,18,19,20,21,22] [] (fun (x:Nat × Int)=>[(11,.p (.i x.1)),(3,.p (.i x.2))]) (fun x=>[])
  (fun x=>x.1≤ls.length∧x.2=((flat ls x.1).length:Int)) (fun x=>ls.length - x.1) (0,0) ⟨Nat.zero_le _,rfl⟩ (by exact knA) (by exact knA) ?_
 rintro ⟨i,n⟩ β γ ⟨hi,hn⟩
 simp only at hi hn
 have hfl:=flat_le ls i
 have hfs:i < ls.length→(flat ls i).length+(ls.getD (i:Int).toNat default).1.length≤1000000000:=fun hlt=>by
  have h1:=flat_le ls (i+1)
  rw [flat_succ ls hlt,List.length_append] at h1
  rw [Int.toNat_natCast]
  omega
 dsimp only
 repeat' (first|refine jx11 ?_|refine jy0 ?_ ?_|exact spF|refine spQ fun hq hq'=>?_|refine spN fun hn=>?_|fail)
 ·exfalso;omega
 ·apply ex2 (i+1)
  apply Exists.intro
  refine ⟨?_,⟨?_,?_⟩,.refl,?_⟩
  rotate_left 3
  (focus exact frA)
  ·dsimp only;omega
  ·dsimp only;omega
  ·dsimp only
   rw [flat_succ ls (by omega),List.length_append,hn,Int.toNat_natCast]
   omega
 ·have hil:i=ls.length:=by omega
  refine aws_loopS (6::[6,8,27,28,29,30,31,32,33,34]) [24] (fun (x:Nat × List Nat)=>[(27,.p (.i x.1)),(6,.o (.osl 24 x.1 1 0 x.2.length))]) (fun x=>[(24,(x.1+1,some (.buf 5 1 (x.2.map fun n:Nat=>[PVal.k .u8 (n:Int)]))))])
   (fun x=>x.1≤ls.length∧x.2=flat ls x.1) (fun x=>ls.length - x.1) (0,[]) ⟨Nat.zero_le _,rfl⟩ (by exact knA) (by exact knA) ?_
  rintro ⟨k,fs⟩ β' γ' ⟨hk,hfk⟩
  simp only at hk hfk
  have hfl':=flat_le ls k
  have hfs':k < ls.length→fs.length+(ls.getD (k:Int).toNat default).1.length≤1000000000:=fun hlt=>by
   have h1:=flat_le ls (k+1)
   rw [flat_succ ls hlt,List.length_append] at h1
   rw [Int.toNat_natCast,hfk]
   omega
  dsimp only
  repeat' (first|refine jx11 ?_|refine jy0 ?_ ?_|exact spF|refine spQ fun hq hq'=>?_|refine spN fun hn=>?_|fail)
  ·apply ex2 (k+1)
   apply Exists.intro
   refine ⟨?_,⟨?_,?_⟩,.refl,?_⟩
   rotate_left 3
   (focus exact frA)
   ·dsimp only;omega
   ·dsimp only;omega
   ·dsimp only
    rw [flat_succ ls (by omega),hfk,Int.toNat_natCast]
  ·have hkl:k=ls.length:=by omega
   have hfa:fs=ls.flatMap (·.1):=by rw [hfk,hkl,flat_all]
   subst hfa hkl
   exact RetO.mk (ot1 rfl rfl (.one (.kosl rfl)) rfl) ⟨.buf,trivial⟩
instance {c k:Nat} {ls:List (List Nat × Bool)} {ex:Bool}:OC Tryz.prog 174 [pieces ls ex] [] [(c,k)] ((ls.flatMap (·.1)).length≤1000000000∧ls.length≤1000000000)
  (.o (.osl c (k+ls.length) 1 0 (ls.flatMap (·.1)).length)) [(c,(k+(ls.length+1),some (.buf 5 1 ((ls.flatMap (·.1)).map fun n:Nat=>[PVal.k .u8 (n:Int)]))))]:=⟨fun h=>(concat_c ls ex h).fresh1 c k⟩
abbrev br (n:Nat):List PVal:=[PVal.k .u8 (n:Int)]
theorem padded_c (ls:List (List Nat × Bool)) (ex:Bool) (h:(ls.flatMap (·.1)).length≤500000000∧ls.length≤1000000000) :
  PCall Tryz.prog 151 [pieces ls ex] (bytesN (pad (ls.flatMap (·.1))) false):=by
 refine pcall_of Tryz.func151 rfl (fun w0 F S0 M0=>?_)
 obtain ⟨hf,hl⟩:=h
 have hf':(ls.flatMap (·.1)).length≤1000000000:=by omega
 repeat' (first|refine jx9 ?_|refine jy0 ?_ ?_|exact spF|refine spQ fun hq hq'=>?_|refine spN fun hn=>?_|fail)
 generalize hL:(ls.flatMap (·.1))=L at hf hf' ⊢
 refine aws_loopS (3::[3,15,16,17,18,19,20,21]) [7] (fun (x:Nat × List Nat)=>[(3,.o (.osl 7 (0+(ls.length+1)+x.1) 1 0 x.2.length))]) (fun x=>[(7,(0+(ls.length+1)+x.1+1,some (.buf 5 1 (x.2.map br))))])
  (fun x=>x.1≤zeros L.length∧x.2=L++[128]++List.replicate x.1 0) (fun x=>zeros L.length - x.1) (0,L++[128]) ⟨Nat.zero_le _,by simp⟩ (by exact knA) (by exact knA) ?_
 rintro ⟨j,bs⟩ β γ ⟨hj,hb⟩
 simp only at hj hb
 have hz:zeros L.length≤63:=by unfold zeros;omega
 have hbl:bs.length=L.length+1+j:=by rw [hb];simp;omega
 have hzj:((bs.length:Int) % 64=56∧j=zeros L.length)∨(¬ (bs.length:Int) % 64=56∧j < zeros L.length):=by
  rw [hbl];unfold zeros at hj ⊢;omega
 dsimp only
 repeat' (first|refine jx12 ?_|refine jy0 ?_ ?_|exact spF|refine spQ fun hq hq'=>?_|refine spN fun hn=>?_|fail)
 ·apply ex2 (j+1)
  apply Exists.intro
  refine ⟨?_,⟨?_,?_⟩,.refl,?_⟩
  rotate_left 3
  (focus exact frA)
  ·dsimp only;omega
  ·dsimp only;omega
  ·dsimp only
   rw [hb,List.replicate_succ'];simp
 ·have hjz:j=zeros L.length:=by omega
  refine aws_loopS (3::[3,5,22,23,24,25,26,27,28,29,30,31,32,33]) [7] (fun (x:Nat × Int × List Nat)=>[(5,.p (.i x.2.1)),(3,.o (.osl 7 (0+(ls.length+1)+j+x.1) 1 0 x.2.2.length))]) (fun x=>[(7,(0+(ls.length+1)+j+x.1+1,some (.buf 5 1 (x.2.2.map br))))])
   (fun x=>x.1≤8∧x.2.1=7 - (x.1:Int)∧x.2.2=bs++(lenBytes L.length).take x.1) (fun x=>8 - x.1) (0,7,bs) ⟨Nat.zero_le _,rfl,by simp⟩ (by exact knA) (by exact knA) ?_
  rintro ⟨k,t,cs⟩ β' γ' ⟨hk,ht,hc⟩
  simp only at hk ht hc
  have hll:(lenBytes L.length).length=8:=by simp [lenBytes]
  have hcl:cs.length=bs.length+k:=by rw [hc,List.length_append,List.length_take,hll];omega
  dsimp only
  repeat' (first|refine jx9 ?_|refine jy0 ?_ ?_|exact spF|refine spQ fun hq hq'=>?_|refine spN fun hn=>?_|fail)
  ·apply ex3 (k+1) (t - 1)
   apply Exists.intro
   refine ⟨?_,⟨?_,?_,?_⟩,.refl,?_⟩
   rotate_left 4
   (focus exact frA)
   ·dsimp only;omega
   ·dsimp only;omega
   ·dsimp only;omega
   ·have e:(8 * t).toNat=8 * (7 - k):=by omega
    have em:L.length % md .u64=L.length:=Nat.mod_eq_of_lt (by show L.length < 18446744073709551616;omega)
    dsimp only
    rw [hc,e,em,List.append_assoc,List.take_succ_eq_append_getElem (by rw [hll];omega)]
    simp only [lenBytes,List.getElem_map,List.getElem_range]
    rfl
  ·have hk8:k=8:=by omega
   refine rt1 rfl rfl (.one (finC_map rfl rfl rfl rfl)) (rs ?_)
   rw [hc,hb,hjz,hk8,List.take_of_length_le (by rw [hll];omega)]
   rfl
instance {ls:List (List Nat × Bool)} {ex:Bool}:PC Tryz.prog 151 [pieces ls ex] ((ls.flatMap (·.1)).length≤500000000∧ls.length≤1000000000) (bytesN (pad (ls.flatMap (·.1))) false):=⟨padded_c ls ex⟩
abbrev bytesP (l:List Nat) (ex:Bool):PVal:=.sl 1 (l.map br) ex
theorem chunk_c (b:List Nat) (ex:Bool) (n:Int) (h:1≤n):PCall Tryz.prog 150 [bytesN b ex,.p (.i n)] (.p (.fnv 173 [.bx [bytesP b ex] 0,.bx [.i n] 0])):=by
 refine pcall_of Tryz.func150 rfl (fun w0 F S0 M0=>?_)
 repeat' (first|refine jx11 ?_|refine jy0 ?_ ?_|exact spF|refine spQ fun hq hq'=>?_|refine spN fun hn=>?_|fail)
 ·exfalso;omega
 ·exact rt1 rfl rfl finS_p rfl
instance {b:List Nat} {ex:Bool} {n:Int}:PC Tryz.prog 150 [bytesN b ex,.p (.i n)] (1≤n) (.p (.fnv 173 [.bx [bytesP b ex] 0,.bx [.i n] 0])):=⟨chunk_c b ex n⟩
def chunkAt (b:List Nat) (n i:Nat):List Nat:=(b.drop (n * i)).take n
set_option maxHeartbeats 1000000 in
theorem chunks_c (b:List Nat) (ex:Bool) (m:Nat) (h:b.length=64 * m) (hb:b.length≤1000000000):ICall Tryz.prog 173 [.bx [bytesP b ex] 0,.bx [.i 64] 0] ((List.range m).map fun i=>bytesN (chunkAt b 64 i) true):=by
 refine icall_of Tryz.func173 rfl (fun w0 F S0 M0 I yv hone hY=>?_)
 simp only [List.length_map,List.length_range]
 repeat' (first|refine jx11 ?_|refine jy0 ?_ ?_|exact spF|refine spQ fun hq hq'=>?_|refine spN fun hn=>?_|fail)
 refine aws_loopS [4,5,6,7,8,9,10,11,12,13,14,15,16,17,18,19,20,21,22,23,24,25,26,27,28,29,30] [1000] (fun (x:Nat × Int)=>[(4,.p (.i x.2))]) (fun x=>[(1000,(1,some (.abs (I x.1))))])
  (fun x=>x.1≤m∧x.2=64 * (x.1:Int)) (fun x=>m - x.1) (0,0) ⟨Nat.zero_le _,rfl⟩ (by exact knA) (by exact knA) ?_
 rintro ⟨i,t⟩ β γ ⟨hi,ht⟩
 simp only at hi ht
 dsimp only
 repeat' (first|refine jx11 ?_|refine jy0 ?_ ?_|exact spF|refine spQ fun hq hq'=>?_|refine spN fun hn=>?_|fail)
 ·have him:i < m:=by omega
  have hdl:(b.drop t.toNat).length=64 * (m - i):=by rw [List.length_drop,h];omega
  refine aws_draws [] mixed (by kernel_rfl) ?_
  repeat' (first|refine jx13 ?_|refine jy1 ?_ ?_|exact spF|refine spQ fun hq hq'=>?_|fail)
  repeat' (first|refine jx11 ?_|refine jy0 ?_ ?_|exact spF|refine spQ fun hq hq'=>?_|refine spN fun hn=>?_|fail)
  refine rn_any (gd_n rfl rfl) rfl (lop_yield (av:=bytesN (chunkAt b 64 i) true) (m0:=(1,some (.abs (I i)))) (m1:=(1,some (.abs (I (i+1))))) rfl rfl (rs ?_) rfl (hY i _ (by simp [him])) rfl) ?_
  ·show _=(b.drop (64 * i)).take 64
   rw [show t.toNat=64 * i by omega] at hdl ⊢
   congr 1
   simp only [hdl] at *
   omega
  repeat' (first|refine jx11 ?_|refine jy0 ?_ ?_|exact spF|refine spQ fun hq hq'=>?_|refine spN fun hn=>?_|fail)
  apply ex2 (i+1)
  apply Exists.intro
  refine ⟨?_,⟨?_,?_⟩,.refl,?_⟩
  rotate_left 3
  (focus exact frA)
  ·dsimp only;omega
  ·dsimp only;omega
  ·dsimp only;omega
 ·have him:i=m:=by omega
  subst him
  show RetO _ _ _ _ _ .ret _
  exact RetO.mk (res0 rfl rfl) ⟨.abs,trivial⟩
instance {b:List Nat} {ex:Bool}:IC Tryz.prog 173 [.bx [bytesP b ex] 0,.bx [.i 64] 0] (b.length=64 * (b.length / 64)∧b.length≤1000000000) ((List.range (b.length / 64)).map fun i=>bytesN (chunkAt b 64 i) true):=⟨fun h=>chunks_c b ex _ h.1 h.2⟩
theorem pad_len (b:List Nat):(pad b).length=b.length+1+zeros b.length+8:=by simp [pad,lenBytes];omega
theorem pad_64 (b:List Nat):(pad b).length=64 * ((pad b).length / 64):=by rw [pad_len];unfold zeros;omega
theorem blocks_succ (P:List Nat) (j:Nat):blocks P (j+1)=block (blocks P j) (chunkAt P 64 j):=rfl
theorem blocks_zero (P:List Nat):firstV=blocks P 0:=rfl
theorem sum_def (b:List Nat):sum b=digest (blocks (pad b) ((pad b).length / 64)):=rfl
theorem Agr.put' {σ τ:St} {W M:List Nat} {o:Nat} {m:Nat × Option MO} (h:Agr σ W (o::M) τ):Agr (σ.put o m) W M (τ.put o m):=⟨h.env,fun t ht=>by
 by_cases e:t=o
 ·subst e;simp [St.put]
 ·have hb:Nat.beq t o=false:=Bool.eq_false_iff.2 (fun k=>e (Nat.eq_of_beq_eq_true k))
  have:=h.mem t (by simp only [memb,hb,ht,Bool.or_self])
  simp [St.put,e,this]⟩
attribute [local irreducible] pad blocks block sum
theorem sum_c (ls:List (List Nat × Bool)) (ex:Bool) (h:(ls.flatMap (·.1)).length≤500000000∧ls.length≤1000000000) :
  PCall Tryz.prog 110 [pieces ls ex] (.a ((sum (ls.flatMap (·.1))).map bc)):=by
 refine pcall_of Tryz.func110 rfl (fun w0 F S0 M0=>?_)
 have hp:(pad (ls.flatMap (·.1))).length≤1000000000:=by rw [pad_len];unfold zeros;omega
 have hp64:=pad_64 (ls.flatMap (·.1))
 have hsum:sum (ls.flatMap (·.1))=digest (blocks (pad (ls.flatMap (·.1))) ((pad (ls.flatMap (·.1))).length / 64)):=sum_def _
 repeat' (first|refine jx11 ?_|refine jy0 ?_ ?_|exact spF|refine spQ fun hq hq'=>?_|refine spN fun hn=>?_|fail)
 generalize hP:pad (ls.flatMap (·.1))=P at hp hp64 hsum ⊢
 refine aws_block ?_
 refine aws_range (ι:=V8) [9,4,10,11,12] [3] (fun v=>[(3,(1,some (.box 224 (v8 v))))]) (fun j v=>v=blocks P j) firstV rfl inferInstance (chunks_c P false (P.length / 64) hp64 hp) rfl ?_ rfl rfl (fun i=>rfl) rfl (blocks_zero P) (by exact knA) ?_ ?_
 ·intro x hx
  simp only [List.mem_map] at hx
  obtain ⟨i,_,rfl⟩:=hx
  exact inferInstance
 ·intro j x hjx v γ w0 F S0 M0 l R R' hv
  rw [List.getElem?_map] at hjx
  have hj:j < P.length / 64:=by
   by_cases hlt:j < P.length / 64
   ·exact hlt
   ·rw [List.getElem?_eq_none (by simp;omega)] at hjx;cases hjx
  rw [List.getElem?_range hj] at hjx
  obtain rfl:=Option.some.inj hjx
  have hcl:(chunkAt P 64 j).length=64:=by simp only [chunkAt,List.length_take,List.length_drop];omega
  have hvo:v.ok:=by rw [hv];exact blocks_ok P j
  obtain ⟨B,hB⟩:∃ B,B=block v (chunkAt P 64 j):=⟨_,rfl⟩
  have hbc:PCall Tryz.prog 152 [.a (v8 v),bytesN (chunkAt P 64 j) true] (.a (v8 B)):=by rw [hB];exact block_c v _ true hcl hvo
  haveI:PC Tryz.prog 152 [.a (v8 v),bytesN (chunkAt P 64 j) true] True (.a (v8 B)):=⟨fun _=>hbc⟩
  repeat' (first|refine jx11 ?_|refine jy0 ?_ ?_|exact spF|refine spQ fun hq hq'=>?_|refine spN fun hn=>?_|fail)
  refine ⟨rfl,rfl,?_⟩
  repeat' (first|refine jx11 ?_|refine jy0 ?_ ?_|exact spF|refine spQ fun hq hq'=>?_|refine spN fun hn=>?_|fail)
  refine ⟨rfl,B,_,?_,.refl,Fr'.mk ?_ (by exact knA) (by exact knA)⟩
  rotate_left 1
  ·repeat' (first|exact Agr.refl|refine Agr.appg rfl rfl ?_|refine Agr.appgn rfl ?_|refine Agr.set rfl ?_|refine Agr.put rfl ?_|refine Agr.put' ?_|refine Agr.fr ?_ (memb_sub rfl) (memb_sub rfl) rfl rfl)
  ·show B=blocks P (j+1)
   rw [blocks_succ,← hv,hB]
 ·intro v γ hv
  simp only [List.length_map,List.length_range] at hv
  repeat' (first|refine jx11 ?_|refine jy0 ?_ ?_|exact spF|refine spQ fun hq hq'=>?_|refine spN fun hn=>?_|fail)
  refine rc1 rfl rfl rfl rfl rfl (by simp [digest]) finL_p ?_
  rw [hsum,← hv]
instance {ls:List (List Nat × Bool)} {ex:Bool}:PC Tryz.prog 110 [pieces ls ex] ((ls.flatMap (·.1)).length≤500000000∧ls.length≤1000000000) (.a ((sum (ls.flatMap (·.1))).map bc)):=⟨sum_c ls ex⟩
end Go.Proofs.YtkgploeegbmofaaGreat.Sh
namespace Go.Proofs.YtkgploeegbmofaaGreat.Sh
open Go Go.RowKit Go.Aw Go.Aw.Sha
set_option linter.unusedVariables false
set_option linter.unusedSimpArgs false
set_option maxRecDepth 8000
attribute [local irreducible] sum
theorem sum1_c (l:List Nat) (e1 e:Bool) (h:l.length≤500000000):PCall Tryz.prog 110 [.p (.sl 1 [[bytesP l e1]] e)] (.a ((sum l).map bc)):=by
 have:=sum_c [(l,e1)] e ⟨by simpa using h,by simp⟩
 rwa [show ([(l,e1)]:List (List Nat × Bool)).flatMap (·.1)=l by simp] at this
theorem sum2_c (a b:List Nat) (e1 e2 e:Bool) (h:a.length+b.length≤500000000):PCall Tryz.prog 110 [.p (.sl 1 [[bytesP a e1],[bytesP b e2]] e)] (.a ((sum (a++b)).map bc)):=by
 have:=sum_c [(a,e1),(b,e2)] e ⟨by simpa using h,by simp⟩
 rwa [show ([(a,e1),(b,e2)]:List (List Nat × Bool)).flatMap (·.1)=a++b by simp] at this
instance {l:List Nat} {e1 e:Bool}:PC Tryz.prog 110 [.p (.sl 1 [[bytesP l e1]] e)] (l.length≤500000000) (.a ((sum l).map bc)):=⟨sum1_c l e1 e⟩
instance {b:List Nat} {e2 e:Bool}:PC Tryz.prog 110 [.p (.sl 1 [[.sl 1 [[.v (.int .u8 0)]] true],[bytesP b e2]] e)] (b.length≤400000000) (.a ((sum (0::b)).map bc)):=⟨fun h=>sum2_c [0] b true e2 e (by simp only [List.length_cons,List.length_nil];omega)⟩
end Go.Proofs.YtkgploeegbmofaaGreat.Sh
namespace Go.Proofs.YtkgploeegbmofaaGreat.Rg
open Go Go.RowKit Go.Aw Go.Aw.Sha Go.Aw.Cart Go.Aw.Ord Go.Sort Go.Proofs.YtkgploeegbmofaaGreat.Ca Go.Proofs.YtkgploeegbmofaaGreat.Sh
set_option linter.unusedVariables false
set_option linter.unusedSimpArgs false
set_option maxRecDepth 8000
set_option maxHeartbeats 4000000
attribute [local irreducible] sum
def pv (S:List Nat):Nat→Nat
 | 0=>0
 | j+1=>pv S j * 256+S.getD j default
def pointF (b:List Nat):Nat:=pv (sum b) 8
theorem sum_okB (b:List Nat):okB (sum b):=by
 unfold sum digest
 intro x hx
 obtain ⟨i,_,rfl⟩:=List.mem_map.1 hx
 exact Nat.mod_lt _ (by decide)
theorem getD_ok {S:List Nat} (h:okB S) (j:Nat):S.getD j default < 256:=by
 rw [List.getD_eq_getElem?_getD]
 cases hj:S[j]? with
 | none=>exact (by decide:0 < 256)
 | some x=>exact h x (List.mem_of_getElem? hj)
theorem pv_lt {S:List Nat} (h:okB S):∀ j,pv S j < 256 ^ j
 | 0=>Nat.one_pos
 | j+1=>by
  have:=pv_lt h j
  have:=getD_ok h j
  rw [pv,Nat.pow_succ];omega
theorem pv_fit {S:List Nat} (h:okB S) {j:Nat} (hj:j≤8):pv S j < 18446744073709551616:=
 Nat.lt_of_lt_of_le (pv_lt h j) (show 256 ^ j≤256 ^ 8 from Nat.pow_le_pow_right (by decide) hj)
theorem byte_in {a c M:Nat} (ha:a * 256+c < M) (hc:c < 256):((a * 256) % M % M||| c % M % M)=a * 256+c:=by
 have h1:c < M:=by omega
 have h2:a * 256 < M:=Nat.lt_of_le_of_lt (Nat.le_add_right _ c) ha
 rw [Nat.mod_eq_of_lt h1,Nat.mod_eq_of_lt h1,Nat.mod_eq_of_lt h2,Nat.mod_eq_of_lt h2]
 have:=Nat.shiftLeft_add_eq_or_of_lt (i:=8) (show c < 2 ^ 8 from hc) a
 rw [Nat.shiftLeft_eq] at this
 exact this.symm
theorem lop_sl_arh {C:Ctx} {o:Oper} {σ:St} {T e:TypeId} {x y:Operand} {n sz by_:Nat} {ke:TK} {sze be:Nat} {ob g off:Nat} {k:IntKind} {m:Int} (ho:o.op=.slice T x none (some y) none) (hT:TI C.P T (.array n e) sz by_) (he:TI C.P e ke sze be) (hx:σ.look x=.o (.ptr ob g off)) (hy:σ.look y=.p (.v (.int k m))) (h0:0≤m) (hm:m≤n) (hd:dOk C o.dst=true) :
  LOp C o σ ⟨.o (.asl ob g off m.toNat n),[]⟩ (fun _=>false):=
 lop_val hd fun τ a w G hl hm' h=>by
  obtain ⟨b,c,h1,h2⟩:=look_of h ((hl x (by simp [ho,Op.operands])).trans hx)
  have e2:=val_of h ((hl y (by simp [ho,Op.operands])).trans hy)
  obtain ⟨d,hdd,hk⟩:=hT.undd
  have:d=.array n e:=by cases d<;>simp [TK.of] at hk;rw [hk.1,hk.2]
  subst this
  refine ⟨.slice (some ⟨b,off,none⟩) m.toNat n,?_,b,c,h1,rfl⟩
  simp [execOp,ho,h2,e2,Instr.sliceAt,Instr.sureAddr,run_underlying hdd,Instr.sliceBounds,run_sb (y:=n) h0 hm,he.run_sizeOf,Addr.add]
namespace P6
theorem lopC {C:Ctx} {o:Oper} {σ:St} {e:Eff} {ro:Nat→Bool} (h:LOp C o σ e ro:=by
  first
   | exact lop_wadd' rfl rfl rfl (by with_reducible (first|rfl|exact lit_nat _|exact ofn_nat _)) (by with_reducible (first|rfl|exact lit_nat _|exact ofn_nat _)) rfl rfl
      | exact lop_wmul' rfl rfl rfl (by with_reducible (first|rfl|exact lit_nat _|exact ofn_nat _)) (by with_reducible (first|rfl|exact lit_nat _|exact ofn_nat _)) rfl rfl
      | exact lop_wsub' rfl rfl rfl (by with_reducible (first|rfl|exact lit_nat _|exact ofn_nat _)) (by with_reducible (first|rfl|exact lit_nat _|exact ofn_nat _)) rfl rfl
      | exact lop_wquo' rfl rfl rfl (by with_reducible (first|rfl|exact lit_nat _|exact ofn_nat _)) (by with_reducible (first|rfl|exact lit_nat _|exact ofn_nat _)) (by decide) rfl rfl
      | exact lop_wrem' rfl rfl rfl (by with_reducible (first|rfl|exact lit_nat _|exact ofn_nat _)) (by with_reducible (first|rfl|exact lit_nat _|exact ofn_nat _)) (by decide) rfl
      | exact lop_wand' rfl rfl rfl (by with_reducible (first|rfl|exact lit_nat _|exact ofn_nat _)) (by with_reducible (first|rfl|exact lit_nat _|exact ofn_nat _)) rfl rfl
      | exact lop_wor' rfl rfl rfl (by with_reducible (first|rfl|exact lit_nat _|exact ofn_nat _)) (by with_reducible (first|rfl|exact lit_nat _|exact ofn_nat _)) rfl rfl
      | exact lop_wxor' rfl rfl rfl (by with_reducible (first|rfl|exact lit_nat _|exact ofn_nat _)) (by with_reducible (first|rfl|exact lit_nat _|exact ofn_nat _)) rfl rfl
      | exact lop_wnot' rfl rfl (by with_reducible (first|rfl|exact lit_nat _|exact ofn_nat _)) rfl rfl
      | exact lop_wshr' rfl rfl (by with_reducible (first|rfl|exact lit_nat _|exact ofn_nat _)) rfl (by first|decide|omega) (by first|decide|(simp only [IntKind.bits];omega)) rfl
      | exact lop_wshl' rfl rfl (by with_reducible (first|rfl|exact lit_nat _|exact ofn_nat _)) rfl (by first|decide|omega) (by first|decide|(simp only [IntKind.bits];omega)) rfl rfl
      | (apply lop_wconv';(focus rfl);(focus exact inferInstance);(focus exact inferInstance);(focus rfl);(focus exact (by with_reducible (first|rfl|exact lit_nat _|exact ofn_nat _)));(focus rfl);(focus rfl))
   | (apply lop_sl_arh;(focus rfl);(focus exact inferInstance);(focus exact inferInstance);(focus rfl);(focus rfl);(focus decide);(focus decide);(focus rfl))
   | exact lop_len_asl rfl rfl rfl
   | exact lopQ
   | fail):LOp C o σ e ro:=h
section steps
variable {C:Ctx} {ops:Array Oper} {o:Oper} {rest:List Oper} {K:St→Prop} {σ:St} {e:Eff} {ro:Nat→Bool} {W:List (Nat × Nat)} {i:Nat}
theorem rnC {d:Nat} (hg:Guard ops σ o true:=by first|exact gd_n rfl rfl|exact gd_t rfl rfl rfl rfl|exact gd_t rfl rfl rfl (by assumption)) (hd:o.dst=some d:=by rfl) (h:LOp C o σ e ro:=by exact lopC) (hk:RunN C ops rest K (e.app (some d) σ)):RunN C ops (o::rest) K σ:=rn_any hg hd h hk
end steps
end P6
open P6
theorem shaPoint_w (b:List Nat) (ex:Bool) (h:b.length≤500000000):PCall Tryz.prog 178 [bytesN b ex] (.p (.k .u64 (pointF b:Int))):=by
 refine pcall_of Tryz.func178 rfl (fun w0 F S0 M0=>?_)
 obtain ⟨S,hS⟩:∃ S,S=sum b:=⟨_,rfl⟩
 have hSl:S.length=32:=by rw [hS];exact sum_len b
 have hSo:okB S:=by rw [hS];exact sum_okB b
 haveI:PC Tryz.prog 110 [.p (.sl 1 [[bytesP b ex]] true)] True (.a (S.map bc)):=⟨fun _=>by rw [hS];exact sum1_c b ex true h⟩
 rw [show pointF b=pv S 8 by rw [hS];rfl]
 clear hS
 repeat' (first|refine jx5 ?_|refine jy0 ?_ ?_|exact spF|refine spQ fun hq hq'=>?_|refine spN fun hn=>?_|fail)
 refine aws_loopS [3,6,12,13,14,15,16,17,18,19,20,21] [] (fun (i:Nat)=>[(12,.p (.i i)),(3,.p (.k .u64 (pv S i:Int)))]) (fun _=>[]) (fun i=>i≤8) (fun i=>8 - i) 0 (Nat.zero_le _) (by exact knA) (by exact knA) ?_
 rintro i β γ hi
 by_cases hil:i < 8
 ·have d1:decide ((i:Int) < 8)=true:=decide_eq_true (by omega)
  as_aux_lemma=>
   repeat' (first|refine jx5 ?_|refine jy0 ?_ ?_|exact spF|refine spQ fun hq hq'=>?_|refine spN fun hn=>?_|fail)
   refine ⟨i+1,_,by omega,(by show i+1≤8;omega),.refl,?_⟩
   have e:pv S (i+1)=(pv S i * 2 ^ (8:Int).toNat) % md .u64 % md .u64||| S.getD (i:Int).toNat default % md .u64 % md .u64:=by
    rw [pv,Int.toNat_natCast]
    exact (byte_in (M:=md .u64) (by have:=pv_fit hSo (show i+1≤8 by omega);rwa [pv] at this) (getD_ok hSo i)).symm
   try dsimp only
   rw [e]
   exact frA
 ·have d1:decide ((i:Int) < 8)=false:=decide_eq_false (by omega)
  obtain rfl:i=8:=by omega
  as_aux_lemma=>
   repeat' (first|refine jx5 ?_|refine jy0 ?_ ?_|exact spF|refine spQ fun hq hq'=>?_|refine spN fun hn=>?_|fail)
   exact rt1 rfl rfl finS_p rfl
end Go.Proofs.YtkgploeegbmofaaGreat.Rg
namespace Go.Aw.Tree
open Go.Aw Go.Aw.Sha
set_option linter.unusedVariables false
set_option linter.unusedSimpArgs false
attribute [local irreducible] sum
def plc (p:Int):Bool:=decide (0≤p∧p < 21)
def upF (p:Int):Int:=if 1≤p∧p≤20 then (p - 1) / 4 else -1
def leafOf (p:Int):Int:=if 5≤p∧p < 21 then p - 5 else -1
def levelF (p:Int):Int:=if p=0 then 0 else if 1≤p∧p≤4 then 1 else if 5≤p∧p≤20 then 2 else -1
theorem upF_lt {p:Int} (h:plc p=true):(upF p+1).toNat < (p+1).toNat:=by
 have h1:0≤p∧p < 21:=of_decide_eq_true h
 unfold upF;split<;>omega
theorem levelF_up {p:Int} (h:plc p=true):levelF p=levelF (upF p)+1:=by
 have h1:0≤p∧p < 21:=of_decide_eq_true h
 unfold upF
 by_cases h2:1≤p∧p≤20
 ·rw [if_pos h2];unfold levelF
  repeat' split
  all_goals omega
 ·rw [if_neg h2];unfold levelF
  repeat' split
  all_goals omega
theorem levelF_in (p:Int) : -1≤levelF p∧levelF p≤2:=by
 unfold levelF
 repeat' split
 all_goals omega
theorem levelF_out {p:Int} (h:plc p=false):levelF p = -1:=by
 have h1:¬ (0≤p∧p < 21):=of_decide_eq_false h
 unfold levelF
 repeat' split
 all_goals omega
abbrev row (T:List Nat) (p:Nat):List Nat:=rowOf 32 T p
def belowTo (T:List Nat) (p:Int):Nat→List Nat
 | 0=>[1]
 | i+1=>belowTo T p i++row T (4 * p+1+i).toNat
def belowF (T:List Nat) (p:Int):List Nat:=if 0≤p∧p≤4 then belowTo T p 4 else []
def okTo (T:List Nat) (n:Nat):Prop:=∀ p,p < n→row T p=sum (belowF T p)
instance {T:List Nat} {n:Nat}:Decidable (okTo T n):=inferInstanceAs (Decidable (∀ p,p < n→row T p=sum (belowF T p)))
def rightF (T:List Nat):Bool:=decide (okTo T 5)
end Go.Aw.Tree
namespace Go.Proofs.YtkgploeegbmofaaGreat.Wi
open Go Go.RowKit Go.Aw Go.Aw.Cart Go.Proofs.YtkgploeegbmofaaGreat.Ca
set_option linter.unusedVariables false
set_option linter.unusedSimpArgs false
section
attribute [local irreducible] bindS smallS numZ intS pureS manyS vecS mustU okS textS entS
end
section
attribute [local irreducible] bindS smallS numZ intS pureS manyS vecS mustU okS textS entS cartS
end
end Go.Proofs.YtkgploeegbmofaaGreat.Wi
