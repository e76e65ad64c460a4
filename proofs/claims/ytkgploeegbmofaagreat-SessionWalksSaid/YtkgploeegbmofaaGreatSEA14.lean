/- packs in plain Lean: lists of carts by keys: their order, what is found, what another cart makes of them -/
import Derived.Test.YtkgploeegbmofaaGreatSEA10
import Derived.Test.YtkgploeegbmofaaGreatSEA09
import Derived.Test.YtkgploeegbmofaaGreatSEA43
import Derived.Test.YtkgploeegbmofaaGreatSEA03
namespace Go.Proofs.YtkgploeegbmofaaGreat.Wi
open Go Go.RowKit Go.Aw Go.Aw.Cart Go.Proofs.YtkgploeegbmofaaGreat.Ca
set_option linter.unusedVariables false
set_option linter.unusedSimpArgs false
theorem bLt_irr:∀ a,bLt a a=false
 | []=>rfl
 | x::l=>by rw [bLt,if_pos rfl];exact bLt_irr l
theorem bLt_trans:∀ {a b c:List Nat},bLt a b=true→bLt b c=true→bLt a c=true
 | [],[],_,h,_=>by cases h
 | [],_::_,[],_,h=>by cases h
 | [],_::_,_::_,_,_=>rfl
 | _::_,[],_,h,_=>by cases h
 | _::_,_::_,[],_,h=>by cases h
 | x::a,y::b,z::c,h1,h2=>by
  rw [bLt] at h1 h2 ⊢
  by_cases hxy:x=y
  ·subst hxy
   rw [if_pos rfl] at h1
   by_cases hxz:x=z
   ·subst hxz
    rw [if_pos rfl] at h2 ⊢
    exact bLt_trans h1 h2
   ·rw [if_neg hxz] at h2 ⊢
    exact h2
  ·rw [if_neg hxy] at h1
   have h1:=of_decide_eq_true h1
   by_cases hyz:y=z
   ·subst hyz
    rw [if_neg hxy]
    exact decide_eq_true h1
   ·rw [if_neg hyz] at h2
    have h2:=of_decide_eq_true h2
    rw [if_neg (by omega)]
    exact decide_eq_true (by omega)
theorem bLt_tri:∀ {a b:List Nat},bLt a b=false→bLt b a=false→a=b
 | [],[],_,_=>rfl
 | [],_::_,h,_=>by cases h
 | _::_,[],_,h=>by cases h
 | x::a,y::b,h1,h2=>by
  rw [bLt] at h1 h2
  by_cases hxy:x=y
  ·subst hxy
   rw [if_pos rfl] at h1 h2
   rw [bLt_tri h1 h2]
  ·rw [if_neg hxy] at h1
   rw [if_neg (fun e=>hxy e.symm)] at h2
   have h1:=of_decide_eq_false h1
   have h2:=of_decide_eq_false h2
   omega
theorem bLt_asym {a b:List Nat} (h:bLt a b=true):bLt b a=false:=by
 cases hb:bLt b a with
 | false=>rfl
 | true=>have:=bLt_trans h hb;rw [bLt_irr] at this;cases this
structure KOk (l:List Kd):Prop where
 few:l.length≤2000
 up:l.Pairwise fun a b=>bLt a.1 b.1=true
 key:∀ e∈l,e.1.length≤20
 cart:∀ e∈l,rightF e.2.1 e.2.2=true
theorem adj_kd {l:List Kd} (h:∀ i,0 < i→i < l.length→bLt (l.getD (i - 1) default).1 (l.getD i default).1=true):l.Pairwise fun a b=>bLt a.1 b.1=true:=by
 have key:∀ j,j < l.length→∀ i,i < j→bLt (l.getD i default).1 (l.getD j default).1=true:=by
  intro j
  induction j with
  | zero=>intro _ i hi;omega
  | succ j ih=>
   intro hj i hi
   have h1:=h (j+1) (by omega) hj
   rw [Nat.add_sub_cancel] at h1
   by_cases e:i=j
   ·rw [e];exact h1
   ·exact bLt_trans (ih (by omega) i (by omega)) h1
 rw [List.pairwise_iff_getElem]
 intro i j hi hj hij
 have:=key j hj i hij
 rwa [getD_at hi,getD_at hj] at this
theorem keys_iff {l:List Kd}:keysF l=true↔KOk l:=by
 unfold keysF kdOk
 rw [decide_eq_true_eq]
 constructor
 ·rintro ⟨h1,h2⟩
  have h3:=fun i hi=>h2 i hi
  simp only [Bool.and_eq_true,Bool.or_eq_true,decide_eq_true_eq] at h3
  refine ⟨h1,adj_kd fun i h0 hi=>((h3 i hi).2.1).resolve_left (by omega),fun e he=>?_,fun e he=>?_⟩
  ·obtain ⟨i,hi,rfl⟩:=getD_mem he
   exact (h3 i hi).1
  ·obtain ⟨i,hi,rfl⟩:=getD_mem he
   exact (h3 i hi).2.2
 ·rintro ⟨h1,h2,h3,h4⟩
  refine ⟨h1,fun i hi=>?_⟩
  simp only [Bool.and_eq_true,Bool.or_eq_true,decide_eq_true_eq]
  have hm:l.getD i default∈l:=by rw [getD_at hi];exact List.getElem_mem _
  refine ⟨h3 _ hm,?_,h4 _ hm⟩
  by_cases h0:i=0
  ·exact .inl h0
  ·right
   rw [getD_at hi,getD_at (show i - 1 < l.length by omega)]
   exact List.pairwise_iff_getElem.1 h2 (i - 1) i (by omega) hi (by omega)
def findK:List Kd→List Nat→Crt × Bool
 | [],_=>((zeroV,[]),false)
 | e::l,k=>if e.1=k then (e.2,true) else findK l k
def setK (l:List Kd) (k:List Nat) (c:Crt):List Kd:=l.map fun e=>if e.1=k then (e.1,c) else e
def gtI:List Kd→List Nat→Nat
 | [],_=>0
 | e::l,k=>if bLt k e.1=true then 0 else gtI l k+1
def hasK (l:List Kd) (k:List Nat):Bool:=l.any fun e=>decide (e.1=k)
def withK (l:List Kd) (k:List Nat) (c:Crt):List Kd:=if hasK l k=true then setK l k c else l.take (gtI l k)++(k,c)::l.drop (gtI l k)
theorem hasK_iff {l:List Kd} {k:List Nat}:hasK l k=true↔∃ e∈l,e.1=k:=by
 unfold hasK
 rw [List.any_eq_true]
 exact ⟨fun ⟨e,h1,h2⟩=>⟨e,h1,of_decide_eq_true h2⟩,fun ⟨e,h1,h2⟩=>⟨e,h1,decide_eq_true h2⟩⟩
theorem gtI_le:∀ (l:List Kd) (k:List Nat),gtI l k≤l.length
 | [],_=>Nat.le_refl _
 | e::l,k=>by
  rw [gtI]
  have:=gtI_le l k
  split
  ·exact Nat.zero_le _
  ·rw [List.length_cons];omega
theorem with_len (l:List Kd) (k:List Nat) (c:Crt):(withK l k c).length=if hasK l k=true then l.length else l.length+1:=by
 unfold withK
 split
 ·unfold setK;rw [List.length_map]
 ·have:=gtI_le l k
  rw [List.length_append,List.length_cons,List.length_take,List.length_drop];omega
theorem gt_take:∀ {l:List Kd} {k:List Nat},∀ e∈l.take (gtI l k),bLt k e.1=false
 | [],k,e,h=>by rw [List.take_nil] at h;cases h
 | x::l,k,e,h=>by
  rw [gtI] at h
  by_cases hx:bLt k x.1=true
  ·rw [if_pos hx,List.take_zero] at h;cases h
  ·rw [if_neg hx,List.take_succ_cons,List.mem_cons] at h
   rcases h with rfl|h
   ·exact Bool.eq_false_iff.2 hx
   ·exact gt_take e h
theorem gt_drop:∀ {l:List Kd} {k:List Nat},(l.Pairwise fun a b=>bLt a.1 b.1=true)→∀ e∈l.drop (gtI l k),bLt k e.1=true
 | [],k,_,e,h=>by rw [List.drop_nil] at h;cases h
 | x::l,k,hp,e,h=>by
  rw [List.pairwise_cons] at hp
  rw [gtI] at h
  by_cases hx:bLt k x.1=true
  ·rw [if_pos hx,List.drop_zero,List.mem_cons] at h
   rcases h with rfl|h
   ·exact hx
   ·exact bLt_trans hx (hp.1 e h)
  ·rw [if_neg hx,List.drop_succ_cons] at h
   exact gt_drop hp.2 e h
theorem with_ok {l:List Kd} {k:List Nat} {c:Crt} (h:KOk l) (h30:l.length < 2000) (hk:k.length≤20) (hc:rightF c.1 c.2=true):KOk (withK l k c):=by
 have hlen:=with_len l k c
 unfold withK at hlen ⊢
 by_cases hh:hasK l k=true
 ·rw [if_pos hh,if_pos hh] at hlen
  rw [if_pos hh]
  refine ⟨by omega,?_,fun e he=>?_,fun e he=>?_⟩
  ·unfold setK
   rw [List.pairwise_map]
   refine h.up.imp fun {a b} hab=>?_
   have e1:∀ x:Kd,(if x.1=k then (x.1,c) else x).1=x.1:=fun x=>by split<;>rfl
   rw [e1,e1];exact hab
  ·obtain ⟨x,hx,rfl⟩:=List.mem_map.1 he
   by_cases q:x.1=k
   ·rw [if_pos q];exact h.key x hx
   ·rw [if_neg q];exact h.key x hx
  ·obtain ⟨x,hx,rfl⟩:=List.mem_map.1 he
   by_cases q:x.1=k
   ·rw [if_pos q];exact hc
   ·rw [if_neg q];exact h.cart x hx
 ·rw [if_neg hh,if_neg hh] at hlen
  rw [if_neg hh]
  have hno:∀ e∈l,e.1≠k:=fun e he q=>hh (hasK_iff.2 ⟨e,he,q⟩)
  have hmem:∀ e,e∈l.take (gtI l k)++(k,c)::l.drop (gtI l k)→e=(k,c)∨e∈l:=fun e he=>by
   rcases List.mem_append.1 he with q|q
   ·exact .inr (List.mem_of_mem_take q)
   ·rcases List.mem_cons.1 q with q|q
    ·exact .inl q
    ·exact .inr (List.mem_of_mem_drop q)
  refine ⟨by omega,?_,fun e he=>?_,fun e he=>?_⟩
  ·have hu:=h.up
   rw [← List.take_append_drop (gtI l k) l,List.pairwise_append] at hu
   rw [List.pairwise_append]
   refine ⟨hu.1,List.pairwise_cons.2 ⟨fun e he=>gt_drop h.up e he,hu.2.1⟩,fun a ha b hb=>?_⟩
   rcases List.mem_cons.1 hb with rfl|hb
   ·have h1:=gt_take a ha
    cases hq:bLt a.1 k with
    | true=>rfl
    | false=>exact absurd (bLt_tri hq h1) (hno a (List.mem_of_mem_take ha))
   ·exact hu.2.2 a ha b hb
  ·rcases hmem e he with rfl|q
   ·exact hk
   ·exact h.key e q
  ·rcases hmem e he with rfl|q
   ·exact hc
   ·exact h.cart e q
theorem with_len_le (l:List Kd) (k:List Nat) (c:Crt):l.length≤(withK l k c).length∧(withK l k c).length≤l.length+1:=by
 rw [with_len];split<;>omega
end Go.Proofs.YtkgploeegbmofaaGreat.Wi
namespace Go.Aw
open Go Go.RowKit
set_option linter.unusedVariables false
set_option linter.unusedSimpArgs false
def MV (mo:MO):Prop:=∀ μ X Y m fp,X.w=Y.w→mo.holds μ X m fp→mo.holds μ Y m fp
theorem MV.buf {ty es:Nat} {α:Type} {l:List α} {f:α→List Value}:MV (.buf ty es (l.map fun x=>(f x).map PVal.v)):=by
 rintro μ X Y m fp hw ⟨h1,h2,h3,h4⟩
 refine ⟨h1,h2,h3,?_⟩
 rcases h4 with h4 | ⟨b,arr,k1,k2,k3,k4,k5⟩
 ·exact .inl h4
 ·refine .inr ⟨b,arr,k1,k2,by rw [← hw];exact k3,k4,fun i row hr=>⟨(k5 i row hr).1,fun j p hp=>?_⟩⟩
  obtain ⟨c,hc,hh⟩:=(k5 i row hr).2 j p hp
  refine ⟨c,hc,?_⟩
  rw [List.getElem?_map] at hr
  cases hx:l[i]? with
  | none=>rw [hx] at hr;cases hr
  | some x=>
   rw [hx] at hr;simp at hr;subst hr
   rw [List.getElem?_map] at hp
   cases hy:(f x)[j]? with
   | none=>rw [hy] at hp;cases hp
   | some y=>rw [hy] at hp;simp at hp;subst hp;exact hh
theorem MO.holds.fp {μ:Mu} {X:Wd} {ty:TypeId} {cs:List AC} {m:Option Nat × Nat} {fp:List Nat} (h:(MO.box ty cs).holds μ X m fp):∃ b,m.1=some b∧fp=[b]:=by
 obtain ⟨b,arr,h1,h2,_⟩:=h;exact ⟨b,h1,h2⟩
theorem aws_sm {C:Ctx} {σ:St} {k:List Code} {c:Code} {Q:Exit→St→Prop} (e:List (Nat × AV)) (m:List (Nat × (Nat × Option MO))) (he:Knows σ.env e) (hm:Knows σ.mem m) (h:∀ ν:Nat→Nat,AWs C (c::k) Q ⟨ovl e fun _=>.un,ovl m fun o=>(ν o,none)⟩):AWs C (c::k) Q σ:=by
 intro a w ⟨G,hG⟩
 have ke:∀ (e:List (Nat × AV)),Knows σ.env e→∀ t,ovl e (fun _=>AV.un) t=σ.env t∨ovl e (fun _=>AV.un) t=.un:=by
  intro e he
  induction he with
  | nil=>exact fun t=>.inr rfl
  | cons hv hl ih=>
   intro t
   simp only [ovl]
   split
   ·rename_i ht;rw [ht];exact .inl hv.symm
   ·exact ih t
 have km:∀ (m:List (Nat × (Nat × Option MO))),Knows σ.mem m→∀ o,ovl m (fun o=>((σ.mem o).1,(none:Option MO))) o=σ.mem o∨ovl m (fun o=>((σ.mem o).1,(none:Option MO))) o=((σ.mem o).1,none):=by
  intro m hm
  induction hm with
  | nil=>exact fun t=>.inr rfl
  | cons hv hl ih=>
   intro t
   simp only [ovl]
   split
   ·rename_i ht;rw [ht];exact .inl hv.symm
   ·exact ih t
 refine h (fun o=>(σ.mem o).1) a w ⟨G,?_⟩
 exact {
  size:=hG.size
  defers:=hG.defers
  dnod:=hG.dnod
  mle:=hG.mle
  env:=fun t=>by
   show (ovl e (fun _=>AV.un) t).holds _ _ _
   rcases ke e he t with k|k<;>rw [k]
   ·exact hG.env t
   ·trivial
  gens:=fun o=>by
   show _=(ovl m (fun o=>((σ.mem o).1,(none:Option MO))) o).1
   rcases km m hm o with k|k<;>rw [k]
   ·exact hG.gens o
   ·exact hG.gens o
  mem:=fun o n mo ho=>by
   have ho:ovl m (fun o=>((σ.mem o).1,(none:Option MO))) o=(n,some mo):=ho
   rcases km m hm o with k|k<;>rw [k] at ho
   ·exact hG.mem o n mo ho
   ·simp at ho
  apart:=hG.apart
  stab:=hG.stab
  own:=hG.own
  sbd:=hG.sbd
  ssub:=hG.ssub
  fr:=hG.fr }
section ops
variable {C:Ctx} {o:Oper} {σ:St}
theorem lop_len_sb {T:TypeId} {x:Operand} {sz by_:Nat} {b:List Nat} (ho:o.op=.call ⟨.builtin .len,#[x],#[T]⟩) (hT:TI C.P T .string sz by_) (hx:σ.look x=.p (.v (.string (strOf b)))) (hd:dOk C o.dst=true) :
  LOp C o σ ⟨.p (.i b.length),[]⟩ (fun _=>false):=by
 have:=lop_len_str (hT:=hT) ho hx hd
 rwa [strOf_size] at this
theorem lop_ix_sb {T:TypeId} {x ix:Operand} {sz by_:Nat} {b:List Nat} {k:IntKind} {i:Int} (ho:o.op=.index T x ix) (hT:TI C.P T .string sz by_) (hx:σ.look x=.p (.v (.string (strOf b)))) (hb:okB b) (hi:σ.look ix=.p (.v (.int k i))) (h0:0≤i) (h1:i < b.length) (hd:dOk C o.dst=true) :
  LOp C o σ ⟨.p (.k .u8 (b.getD i.toNat default:Nat)),[]⟩ (fun _=>false):=
 lop_val hd fun τ a w G hl' hm' h=>by
  have e1:=val_of h ((hl' x (by simp [ho,Op.operands])).trans hx)
  have e2:=val_of h ((hl' ix (by simp [ho,Op.operands])).trans hi)
  obtain ⟨d,hdd,hkk⟩:=hT.undd
  have:d=.string:=by cases d<;>simp [TK.of] at hkk;rfl
  subst this
  have hlt:i.toNat < b.length:=by omega
  have hbd:0≤i∧i < ((strOf b).size:Int):=by rw [strOf_size];exact ⟨h0,h1⟩
  have hlt2:i.toNat < (strOf b).size:=by rw [strOf_size];exact hlt
  have hg:(strOf b)[i.toNat]=UInt8.ofNat b[i.toNat]:=by
   show ((b.map UInt8.ofNat).toArray)[i.toNat]'(by simpa using hlt)=_
   simp
  have hby:(((strOf b)[i.toNat]).toNat:Int)=((b.getD i.toNat default:Nat):Int):=by
   rw [hg,List.getD_eq_getElem?_getD,List.getElem?_eq_getElem hlt]
   have:=hb b[i.toNat] (List.getElem_mem _)
   simp;omega
  refine ⟨.int .u8 (((strOf b)[i.toNat]).toNat:Int),?_,by rw [hby],rfl⟩
  simp [execOp,ho,e1,e2,Instr.index,asIntOf,run_underlying hdd,h0,hlt2]
end ops
end Go.Aw
namespace Go.Proofs.YtkgploeegbmofaaGreat.Ca
open Go Go.RowKit Go.Aw Go.Aw.Cart Go.Aw.Ord Go.Sort
set_option linter.unusedVariables false
set_option linter.unusedSimpArgs false
set_option maxRecDepth 8000
set_option maxHeartbeats 4000000
theorem great_w (v:List Int) (l:List Ent) (ex:Bool):PCall Tryz.prog 60 [cV v l ex] (.p (.b (decide (60 < (l.length:Int))))):=by
 refine pcall_of Tryz.func60 rfl (fun w0 F S0 M0=>?_)
 repeat' (first|refine jx4 ?_|refine jy0 ?_ ?_|exact spF|refine spQ fun hq hq'=>?_|refine spN fun hn=>?_|fail)
 exact rt1 rfl rfl finS_p rfl
instance {v:List Int} {l:List Ent} {ex:Bool}:PC Tryz.prog 60 [cV v l ex] True (.p (.b (decide (60 < (l.length:Int))))):=⟨fun _=>great_w v l ex⟩
namespace A
end A
open A
end Go.Proofs.YtkgploeegbmofaaGreat.Ca
namespace Go.Aw.Sha
set_option linter.unusedVariables false
set_option linter.unusedSimpArgs false
abbrev M:Nat:=4294967296
def x32 (a b:Nat):Nat:=(a % M) ^^^ (b % M)
def a32 (a b:Nat):Nat:=a % M&&& b % M
def o32 (a b:Nat):Nat:=a % M||| b % M
def n32 (a:Nat):Nat:=(M - 1) ^^^ (a % M)
def rotr (x n:Nat):Nat:=x / 2 ^ n||| (x * 2 ^ (32 - n)) % M
structure V8 where
 a:Nat
 b:Nat
 c:Nat
 d:Nat
 e:Nat
 f:Nat
 g:Nat
 h:Nat
def V8.ok (v:V8):Prop:=v.a < M∧v.b < M∧v.c < M∧v.d < M∧v.e < M∧v.f < M∧v.g < M∧v.h < M
def V8.list (v:V8):List Nat:=[v.a,v.b,v.c,v.d,v.e,v.f,v.g,v.h]
def firstV:V8:=⟨1779033703,3144134277,1013904242,2773480762,1359893119,2600822924,528734635,1541459225⟩
def consts:List Nat:=[1116352408,1899447441,3049323471,3921009573,961987163,1508970993,2453635748,2870763221,3624381080,310598401,607225278,1426881987,1925078388,2162078206,2614888103,3248222580,3835390401,4022224774,264347078,604807628,770255983,1249150122,1555081692,1996064986,2554220882,2821834349,2952996808,3210313671,3336571891,3584528711,113926993,338241895,666307205,773529912,1294757372,1396182291,1695183700,1986661051,2177026350,2456956037,2730485921,2820302411,3259730800,3345764771,3516065817,3600352804,4094571909,275423344,430227734,506948616,659060556,883997877,958139571,1322822218,1537002063,1747873779,1955562222,2024104815,2227730452,2361852424,2428436474,2756734187,3204031479,3329325298]
def stepX (v:V8) (k w:Nat):Nat:=(((v.h+x32 (x32 (rotr v.e 6) (rotr v.e 11)) (rotr v.e 25)) % M+x32 (a32 v.e v.f) (a32 (n32 v.e) v.g)) % M+k) % M
def stepY (v:V8):Nat:=(x32 (x32 (rotr v.a 2) (rotr v.a 13)) (rotr v.a 22)+x32 (x32 (a32 v.a v.b) (a32 v.a v.c)) (a32 v.b v.c)) % M
def step (v:V8) (k w:Nat):V8:=⟨((stepX v k w+w) % M+stepY v) % M,v.a,v.b,v.c,(v.d+(stepX v k w+w) % M) % M,v.e,v.f,v.g⟩
def steps (w:List Nat):Nat→V8→V8
 | 0,v=>v
 | t+1,v=>step (steps w t v) (consts.getD t default) (w.getD t default)
def addV (s v:V8):V8:=⟨(s.a+v.a) % M,(s.b+v.b) % M,(s.c+v.c) % M,(s.d+v.d) % M,(s.e+v.e) % M,(s.f+v.f) % M,(s.g+v.g) % M,(s.h+v.h) % M⟩
def word4 (b:List Nat) (t:Nat):Nat:=o32 (o32 (o32 (((b.drop (4 * t)).getD 0 default % M * 2 ^ 24) % M) (((b.drop (4 * t)).getD 1 default % M * 2 ^ 16) % M)) (((b.drop (4 * t)).getD 2 default % M * 2 ^ 8) % M)) ((b.drop (4 * t)).getD 3 default % M)
def wordN (w:List Nat) (t:Nat):Nat:=(((w.getD (t - 16) default+x32 (x32 (rotr (w.getD (t - 15) default) 7) (rotr (w.getD (t - 15) default) 18)) (w.getD (t - 15) default / 2 ^ 3)) % M+w.getD (t - 7) default) % M
 + x32 (x32 (rotr (w.getD (t - 2) default) 17) (rotr (w.getD (t - 2) default) 19)) (w.getD (t - 2) default / 2 ^ 10)) % M
def spreadTo (b:List Nat):Nat→List Nat
 | 0=>List.replicate 64 0
 | t+1=>(spreadTo b t).set t (if t < 16 then word4 b t else wordN (spreadTo b t) t)
def block (s:V8) (b:List Nat):V8:=addV s (steps (spreadTo b 64) 64 s)
def digest (s:V8):List Nat:=(List.range 32).map fun i=>(s.list.getD (i / 4) default / 2 ^ (24 - 8 * (i % 4))) % 256
def digTo (s:V8):Nat→List Nat
 | 0=>List.replicate 32 0
 | m+1=>(digTo s m).set m ((s.list.getD (m / 4) default / 2 ^ (24 - 8 * (m % 4))) % 256)
theorem digTo_len (s:V8):∀ m,(digTo s m).length=32
 | 0=>by simp [digTo]
 | m+1=>by simp [digTo,digTo_len s m]
theorem digTo_get (s:V8):∀ m i (h:i < (digTo s m).length),(digTo s m)[i]=if i < m then (s.list.getD (i / 4) default / 2 ^ (24 - 8 * (i % 4))) % 256 else 0
 | 0,i,h=>by rw [if_neg (Nat.not_lt_zero _)];exact List.getElem_replicate (n:=32) (a:=0) _
 | m+1,i,h=>by
  simp only [digTo,List.getElem_set]
  by_cases e:m=i
  ·subst e;simp
  ·rw [if_neg e,digTo_get s m i (by simpa [digTo] using h)]
   by_cases h1:i < m
   ·rw [if_pos h1,if_pos (by omega)]
   ·rw [if_neg h1,if_neg (by omega)]
theorem digTo_all (s:V8):digTo s 32=digest s:=by
 apply List.ext_getElem
 ·rw [digTo_len];simp [digest]
 ·intro i h1 h2
  rw [digTo_get,if_pos (by rw [digTo_len] at h1;exact h1)]
  simp [digest]
def addTo (s v:V8):Nat→List Nat
 | 0=>s.list
 | i+1=>(addTo s v i).set i (((addTo s v i).getD i default+v.list.getD i default) % M)
theorem addTo_len (s v:V8):∀ i,(addTo s v i).length=8
 | 0=>rfl
 | i+1=>by simp [addTo,addTo_len s v i]
theorem addTo_all (s v:V8):addTo s v 8=(addV s v).list:=rfl
def zeros (n:Nat):Nat:=(119 - n % 64) % 64
def lenBytes (n:Nat):List Nat:=(List.range 8).map fun i=>((n * 8) % 18446744073709551616 / 2 ^ (8 * (7 - i))) % 256
def pad (b:List Nat):List Nat:=b++[128]++List.replicate (zeros b.length) 0++lenBytes b.length
def blocks (p:List Nat):Nat→V8
 | 0=>firstV
 | j+1=>block (blocks p j) ((p.drop (64 * j)).take 64)
def sum (b:List Nat):List Nat:=digest (blocks (pad b) ((pad b).length / 64))
theorem spreadTo_len (b:List Nat):∀ t,(spreadTo b t).length=64
 | 0=>by simp [spreadTo]
 | t+1=>by simp [spreadTo,spreadTo_len b t]
theorem digest_len (s:V8):(digest s).length=32:=by simp [digest]
theorem sum_len (b:List Nat):(sum b).length=32:=digest_len _
theorem lenBytes_len (n:Nat):(lenBytes n).length=8:=by simp [lenBytes]
theorem pad_len (b:List Nat):(pad b).length=b.length+1+zeros b.length+8:=by simp [pad,lenBytes_len];omega
theorem pad_64 (b:List Nat):(pad b).length % 64=0:=by rw [pad_len];unfold zeros;omega
theorem o32_lt (a b:Nat):o32 a b < M:=Nat.or_lt_two_pow (n:=32) (Nat.mod_lt _ (by decide)) (Nat.mod_lt _ (by decide))
theorem step_ok {v:V8} (h:v.ok) (k w:Nat):(step v k w).ok:=by
 obtain ⟨h1,h2,h3,h4,h5,h6,h7,h8⟩:=h
 exact ⟨Nat.mod_lt _ (by decide),h1,h2,h3,Nat.mod_lt _ (by decide),h5,h6,h7⟩
theorem firstV_ok:firstV.ok:=by unfold V8.ok firstV;decide
theorem steps_ok {v:V8} (h:v.ok) (w:List Nat):∀ t,(steps w t v).ok
 | 0=>h
 | t+1=>step_ok (steps_ok h w t) _ _
theorem addV_ok (s v:V8):(addV s v).ok:=⟨Nat.mod_lt _ (by decide),Nat.mod_lt _ (by decide),Nat.mod_lt _ (by decide),Nat.mod_lt _ (by decide),Nat.mod_lt _ (by decide),Nat.mod_lt _ (by decide),Nat.mod_lt _ (by decide),Nat.mod_lt _ (by decide)⟩
theorem blocks_ok (p:List Nat):∀ j,(blocks p j).ok
 | 0=>firstV_ok
 | j+1=>addV_ok _ _
theorem spreadTo_lt (b:List Nat):∀ t i,(spreadTo b t).getD i default < M
 | 0,i=>by
  simp only [spreadTo,List.getD_eq_getElem?_getD,List.getElem?_replicate]
  split<;>(show _ < 4294967296)<;>decide
 | t+1,i=>by
  have ih:=spreadTo_lt b t
  simp only [spreadTo,List.getD_eq_getElem?_getD,List.getElem?_set]
  split
  ·split
   ·rename_i h1 h2
    simp only [Option.getD_some]
    split
    ·exact o32_lt _ _
    ·exact Nat.mod_lt _ (by decide)
   ·show (0:Nat) < 4294967296;decide
  ·have:=ih i;rwa [List.getD_eq_getElem?_getD] at this
end Go.Aw.Sha
namespace Go.Proofs.YtkgploeegbmofaaGreat.Sh
open Go Go.RowKit Go.Aw Go.Aw.Sha
set_option linter.unusedVariables false
set_option linter.unusedSimpArgs false
set_option maxRecDepth 4000
theorem and31 (z:Int):0≤bits .and .u64 z 31∧bits .and .u64 z 31≤31:=by
 have e:bits .and .u64 z 31=(((BitVec.ofInt 64 z).toNat&&& 31:Nat):Int):=by
  have h1:(BitVec.ofInt 64 z&&& BitVec.ofInt 64 31).toNat=(BitVec.ofInt 64 z).toNat&&& 31:=by simp [BitVec.toNat_and]
  have h2:((BitVec.ofInt 64 z).toNat&&& 31)≤31:=Nat.and_le_right
  show IntKind.u64.wrap ((BitVec.ofInt 64 z&&& BitVec.ofInt 64 31).toNat:Int)=_
  rw [h1,wrap_md rfl,Nat.mod_eq_of_lt]
  exact Nat.lt_of_le_of_lt h2 (by decide)
 have h2:((BitVec.ofInt 64 z).toNat&&& 31)≤31:=Nat.and_le_right
 omega
theorem rotl_c (x:Nat) (k:Int):PCall Tryz.prog 191 [.p (.k .u32 (x:Int)),.p (.i k)] (.p (.k .u32 ((o32 ((x * 2 ^ (bits .and .u64 (IntKind.u64.wrap k) 31).toNat) % M) (x / 2 ^ ((32:Int) - bits .and .u64 (IntKind.u64.wrap k) 31).toNat):Nat):Int))):=by
 refine pcall_of Tryz.func191 rfl (fun w0 F S0 M0=>?_)
 have h31:=and31 (IntKind.u64.wrap k)
 repeat' (first|refine jx9 ?_|refine jy0 ?_ ?_|exact spF|refine spQ fun hq hq'=>?_|refine spN fun hn=>?_|fail)
 all_goals exact rt1 rfl rfl finS_p rfl
instance {x:Nat} {k:Int}:PC Tryz.prog 191 [.p (.k .u32 (x:Int)),.p (.i k)] True (.p (.k .u32 ((o32 ((x * 2 ^ (bits .and .u64 (IntKind.u64.wrap k) 31).toNat) % M) (x / 2 ^ ((32:Int) - bits .and .u64 (IntKind.u64.wrap k) 31).toNat):Nat):Int))):=⟨fun _=>rotl_c x k⟩
theorem turn_of:∀ n:Nat,n < 32→1≤n→bits .and .u64 (IntKind.u64.wrap (IntKind.i64.wrap (0 - (n:Int)))) 31=32 - (n:Int):=by decide
theorem o32_rot {x n:Nat} (hx:x < M):o32 ((x * 2 ^ (32 - n)) % M) (x / 2 ^ n)=rotr x n:=by
 unfold o32 rotr
 rw [Nat.mod_mod,Nat.mod_eq_of_lt (a:=x / 2 ^ n) (Nat.lt_of_le_of_lt (Nat.div_le_self _ _) hx),Nat.or_comm]
theorem right_c (x n:Nat) (h:x < M∧1≤n∧n≤31):PCall Tryz.prog 177 [.p (.k .u32 (x:Int)),.p (.i (n:Int))] (.p (.k .u32 ((rotr x n:Nat):Int))):=by
 refine pcall_of Tryz.func177 rfl (fun w0 F S0 M0=>?_)
 repeat' (first|refine jx9 ?_|refine jy0 ?_ ?_|exact spF|refine spQ fun hq hq'=>?_|refine spN fun hn=>?_|fail)
 refine rt1 rfl rfl finS_p (ri ?_)
 have e:=turn_of n (by omega) h.2.1
 have e1:(bits .and .u64 (IntKind.u64.wrap (IntKind.i64.wrap (0 - (n:Int)))) 31).toNat=32 - n:=by rw [e];omega
 have e2:((32:Int) - bits .and .u64 (IntKind.u64.wrap (IntKind.i64.wrap (0 - (n:Int)))) 31).toNat=n:=by rw [e];omega
 rw [e1,e2,o32_rot h.1]
instance {x:Nat} {k:Int}:PC Tryz.prog 177 [.p (.k .u32 (x:Int)),.p (.i k)] (x < M∧1≤k∧k≤31) (.p (.k .u32 ((rotr x k.toNat:Nat):Int))):=⟨fun h=>by
 have:=right_c x k.toNat ⟨h.1,by omega,by omega⟩
 rwa [show ((k.toNat:Nat):Int)=k by omega] at this⟩
abbrev wc (n:Nat):AC:=.p (.k .u32 (n:Int))
abbrev v8 (v:V8):List AC:=[wc v.a,wc v.b,wc v.c,wc v.d,wc v.e,wc v.f,wc v.g,wc v.h]
theorem first_c:PCall Tryz.prog 149 [] (.a (v8 firstV)):=by
 refine pcall_of Tryz.func149 rfl (fun w0 F S0 M0=>?_)
 repeat' (first|refine jx9 ?_|refine jy0 ?_ ?_|exact spF|refine spQ fun hq hq'=>?_|refine spN fun hn=>?_|fail)
 all_goals exact rc1 rfl rfl rfl rfl rfl rfl finL_p rfl
instance:PC Tryz.prog 149 [] True (.a (v8 firstV)):=⟨fun _=>first_c⟩
theorem consts_c:PCall Tryz.prog 175 [] (.a (consts.map wc)):=by
 refine pcall_of Tryz.func175 rfl (fun w0 F S0 M0=>?_)
 repeat' (first|refine jx9 ?_|refine jy0 ?_ ?_|exact spF|refine spQ fun hq hq'=>?_|refine spN fun hn=>?_|fail)
 all_goals exact rc1 rfl rfl rfl rfl rfl rfl finL_p rfl
instance:PC Tryz.prog 175 [] True (.a (consts.map wc)):=⟨fun _=>consts_c⟩
end Go.Proofs.YtkgploeegbmofaaGreat.Sh
namespace Go.Proofs.YtkgploeegbmofaaGreat.Sh
open Go Go.RowKit Go.Aw Go.Aw.Sha
set_option linter.unusedVariables false
set_option linter.unusedSimpArgs false
set_option maxRecDepth 8000
abbrev bytesN (l:List Nat) (ex:Bool):AV:=.p (.sl 1 (l.map fun n:Nat=>[PVal.k .u8 (n:Int)]) ex)
set_option maxHeartbeats 2000000 in
theorem spread_c (b:List Nat) (ex:Bool) (h:b.length=64):PCall Tryz.prog 176 [bytesN b ex] (.a ((spreadTo b 64).map wc)):=by
 refine pcall_of Tryz.func176 rfl (fun w0 F S0 M0=>?_)
 repeat' (first|refine jx9 ?_|refine jy0 ?_ ?_|exact spF|refine spQ fun hq hq'=>?_|refine spN fun hn=>?_|fail)
 refine aws_loopS [4,5,9,10,11,12,13,14,15,16,17,18,19,20,21,22,23,24,25,26,27,28,29,30,31,32,33,34,35,36,37,38,39,40] [3] (fun (x:Nat × List Nat)=>[(9,.p (.i x.1))]) (fun x=>[(3,(1,some (.box 250 (x.2.map wc))))])
  (fun x=>x.1≤16∧x.2=spreadTo b x.1) (fun x=>16 - x.1) (0,spreadTo b 0) ⟨Nat.zero_le _,rfl⟩ (by exact knA) (by exact knA) ?_
 rintro ⟨t,ws⟩ β γ ⟨ht,hws⟩
 simp only at ht hws
 have hwl:ws.length=64:=by rw [hws];exact spreadTo_len b t
 dsimp only
 repeat' (first|refine jx9 ?_|refine jy0 ?_ ?_|exact spF|refine spQ fun hq hq'=>?_|refine spN fun hn=>?_|fail)
 ·refine aws_draws [(24,3)] mixed (by kernel_rfl) ?_
  repeat' (first|refine jx10 ?_|refine jy1 ?_ ?_|exact spF|refine spQ fun hq hq'=>?_|fail)
  repeat' (first|refine jx9 ?_|refine jy0 ?_ ?_|exact spF|refine spQ fun hq hq'=>?_|refine spN fun hn=>?_|fail)
  apply ex2 (t+1)
  apply Exists.intro
  refine ⟨?_,⟨?_,?_⟩,.refl,?_⟩
  rotate_left 3
  (focus exact frA)
  ·dsimp only;omega
  ·dsimp only;omega
  ·dsimp only
   have e4:(4 * (t:Int)).toNat=4 * t:=by omega
   rw [spreadTo,if_pos (by omega),hws,e4,Int.toNat_natCast]
   rfl
 ·refine aws_loopS [6,7,8,41,42,43,44,45,46,47,48,49,50,51,52,53,54,55,56,57,58,59,60,61,62,63,64,65,66,67,68,69,70,71,72,73,74,75,76,77,78,79,80,81] [3] (fun (x:Nat × List Nat)=>[(6,.p (.i x.1))]) (fun x=>[(3,(1,some (.box 250 (x.2.map wc))))])
   (fun x=>16≤x.1∧x.1≤64∧x.2=spreadTo b x.1) (fun x=>64 - x.1) (16,ws) ⟨Nat.le_refl 16,by show 16≤64;omega,by dsimp only;rw [hws];congr 1;omega⟩ (by exact knA) (by exact knA) ?_
  rintro ⟨t',ws'⟩ β' γ' ⟨ht0,ht',hws'⟩
  simp only at ht0 ht' hws'
  have hwl':ws'.length=64:=by rw [hws'];exact spreadTo_len b t'
  have hx:ws'.getD ((t':Int) - 15).toNat default < M:=by rw [hws'];exact spreadTo_lt b _ _
  have hy:ws'.getD ((t':Int) - 2).toNat default < M:=by rw [hws'];exact spreadTo_lt b _ _
  dsimp only
  repeat' (first|refine jx9 ?_|refine jy0 ?_ ?_|exact spF|refine spQ fun hq hq'=>?_|refine spN fun hn=>?_|fail)
  ·refine aws_draws [] mixed (by kernel_rfl) ?_
   repeat' (first|refine jx10 ?_|refine jy1 ?_ ?_|exact spF|refine spQ fun hq hq'=>?_|fail)
   repeat' (first|refine jx9 ?_|refine jy0 ?_ ?_|exact spF|refine spQ fun hq hq'=>?_|refine spN fun hn=>?_|fail)
   refine aws_draws [(29,3)] mixed (by kernel_rfl) ?_
   repeat' (first|refine jx10 ?_|refine jy1 ?_ ?_|exact spF|refine spQ fun hq hq'=>?_|fail)
   repeat' (first|refine jx9 ?_|refine jy0 ?_ ?_|exact spF|refine spQ fun hq hq'=>?_|refine spN fun hn=>?_|fail)
   apply ex2 (t'+1)
   apply Exists.intro
   refine ⟨?_,⟨?_,?_,?_⟩,.refl,?_⟩
   rotate_left 4
   (focus exact frA)
   ·dsimp only;omega
   ·dsimp only;omega
   ·dsimp only;omega
   ·dsimp only
    have e15:((t':Int) - 15).toNat=t' - 15:=by omega
    have e16:((t':Int) - 16).toNat=t' - 16:=by omega
    have e2:((t':Int) - 2).toNat=t' - 2:=by omega
    have e7:((t':Int) - 7).toNat=t' - 7:=by omega
    rw [spreadTo,if_neg (by omega),e15,e16,e2,e7,Int.toNat_natCast,← hws']
    rfl
  ·refine rc1 rfl rfl rfl rfl rfl (by simpa using hwl') finL_p ?_
   rw [hws',show t'=64 by omega]
instance {b:List Nat} {ex:Bool}:PC Tryz.prog 176 [bytesN b ex] (b.length=64) (.a ((spreadTo b 64).map wc)):=⟨spread_c b ex⟩
end Go.Proofs.YtkgploeegbmofaaGreat.Sh
namespace Go.Aw.Tree
open Go.Aw Go.Aw.Sha
set_option linter.unusedVariables false
set_option linter.unusedSimpArgs false
attribute [local irreducible] sum
theorem take_snocD {α:Type} [Inhabited α] {l:List α} {k:Nat} (h:k < l.length):l.take (k+1)=l.take k++[l.getD k default]:=by
 rw [List.take_succ_eq_append_getElem h,List.getD_eq_getElem?_getD,List.getElem?_eq_getElem h];rfl
def plc (p:Int):Bool:=decide (0≤p∧p < 21)
def kidsF (p:Int):List Int:=if 0≤p∧p≤4 then [4 * p+1,4 * p+2,4 * p+3,4 * p+4] else []
def upF (p:Int):Int:=if 1≤p∧p≤20 then (p - 1) / 4 else -1
def leafOf (p:Int):Int:=if 5≤p∧p < 21 then p - 5 else -1
def levelF (p:Int):Int:=if p=0 then 0 else if 1≤p∧p≤4 then 1 else if 5≤p∧p≤20 then 2 else -1
theorem kidsF_in {p:Int} (h:0≤p∧p≤4):kidsF p=[4 * p+1,4 * p+2,4 * p+3,4 * p+4]:=by simp [kidsF,h]
theorem kidsF_out {p:Int} (h:¬ (0≤p∧p≤4)):kidsF p=[]:=by unfold kidsF;rw [if_neg h]
theorem kidsF_get {p:Int} (h:0≤p∧p≤4) {i:Nat} (hi:i < 4):(kidsF p).getD i default=4 * p+1+i:=by
 rw [kidsF_in h]
 match i,hi with
 | 0,_=>simp
 | 1,_=>simp;omega
 | 2,_=>simp;omega
 | 3,_=>simp;omega
theorem upF_lt {p:Int} (h:plc p=true):(upF p+1).toNat < (p+1).toNat:=by
 have h1:0≤p∧p < 21:=of_decide_eq_true h
 unfold upF;split<;>omega
theorem levelF_up {p:Int} (h:plc p=true):levelF p=levelF (upF p)+1:=by
 have h1:0≤p∧p < 21:=of_decide_eq_true h
 unfold upF
 by_cases h2:1≤p∧p≤20
 ·rw [if_pos h2];unfold levelF
  repeat' split
  all_goals omega
 ·rw [if_neg h2];unfold levelF
  repeat' split
  all_goals omega
theorem levelF_in (p:Int) : -1≤levelF p∧levelF p≤2:=by
 unfold levelF
 repeat' split
 all_goals omega
theorem levelF_out {p:Int} (h:plc p=false):levelF p = -1:=by
 have h1:¬ (0≤p∧p < 21):=of_decide_eq_false h
 unfold levelF
 repeat' split
 all_goals omega
abbrev row (T:List Nat) (p:Nat):List Nat:=rowOf 32 T p
def belowTo (T:List Nat) (p:Int):Nat→List Nat
 | 0=>[1]
 | i+1=>belowTo T p i++row T (4 * p+1+i).toNat
def belowF (T:List Nat) (p:Int):List Nat:=if 0≤p∧p≤4 then belowTo T p 4 else []
theorem row_len {T:List Nat} {p:Nat} (h:T.length=672) (hp:p < 21):(row T p).length=32:=rowOf_len (by omega)
theorem belowTo_len {T:List Nat} {p:Int} (h:T.length=672) (hp:0≤p∧p≤4):∀ i,i≤4→(belowTo T p i).length=1+32 * i
 | 0,_=>rfl
 | i+1,hi=>by rw [belowTo,List.length_append,belowTo_len h hp i (by omega),row_len h (by omega)];omega
theorem belowF_len {T:List Nat} {p:Int} (h:T.length=672):(belowF T p).length≤129:=by
 unfold belowF;split
 ·rename_i hp;rw [belowTo_len h hp 4 (by omega)];omega
 ·simp
def leafD (b:List Nat):List Nat:=sum (0::b)
theorem sumLen (b:List Nat):(sum b).length=32:=sum_len b
def fixF (T:List Nat) (p:Nat):List Nat:=setRow 32 T p (sum (belowF T p))
theorem leafD_len (b:List Nat):(leafD b).length=32:=sum_len _
theorem fixF_len {T:List Nat} {p:Nat} (h:T.length=672) (hp:p < 21):(fixF T p).length=672:=by
 unfold fixF;rw [setRow_len (by omega) (sumLen _)];exact h
def innerTo (T:List Nat):Nat→List Nat
 | 0=>T
 | i+1=>fixF (innerTo T i) (4 - i)
def innerF (T:List Nat):List Nat:=innerTo T 5
theorem innerTo_len {T:List Nat} (h:T.length=672):∀ i,(innerTo T i).length=672
 | 0=>h
 | i+1=>fixF_len (innerTo_len h i) (by omega)
def leavesTo (ls:List (List Nat)):Nat→List Nat
 | 0=>List.replicate 672 0
 | i+1=>setRow 32 (leavesTo ls i) (5+i) (leafD (ls.getD i default))
theorem leavesTo_len (ls:List (List Nat)):∀ i,i≤16→(leavesTo ls i).length=672
 | 0,_=>List.length_replicate
 | i+1,h=>by rw [leavesTo,setRow_len (by rw [leavesTo_len ls i (by omega)];omega) (leafD_len _)];exact leavesTo_len ls i (by omega)
def ofF (ls:List (List Nat)):List Nat:=innerF (leavesTo ls 16)
theorem ofF_len (ls:List (List Nat)):(ofF ls).length=672:=innerTo_len (leavesTo_len ls 16 (by omega)) 5
def okTo (T:List Nat) (n:Nat):Prop:=∀ p,p < n→row T p=sum (belowF T p)
instance {T:List Nat} {n:Nat}:Decidable (okTo T n):=inferInstanceAs (Decidable (∀ p,p < n→row T p=sum (belowF T p)))
def rightF (T:List Nat):Bool:=decide (okTo T 5)
end Go.Aw.Tree
namespace Go.Aw.Tree
open Go.Aw Go.Aw.Sha
set_option linter.unusedVariables false
set_option linter.unusedSimpArgs false
attribute [local irreducible] sum
theorem row_fix {T:List Nat} {p:Nat} (h:T.length=672) (hp:p < 21):row (fixF T p) p=sum (belowF T p):=rowOf_setRow (by omega) (sumLen _)
theorem row_fix_ne {T:List Nat} {p q:Nat} (h:T.length=672) (hp:p < 21) (hq:q≠p):row (fixF T p) q=row T q:=rowOf_setRow_ne (by omega) (sumLen _) hq
theorem belowTo_congr {T U:List Nat} {p:Int} (h:∀ i:Nat,i < 4→row T (4 * p+1+i).toNat=row U (4 * p+1+i).toNat):∀ k,k≤4→belowTo T p k=belowTo U p k
 | 0,_=>rfl
 | k+1,hk=>by rw [belowTo,belowTo,belowTo_congr h k (by omega),h k (by omega)]
theorem below_congr {T U:List Nat} {p:Nat} (h:∀ i:Nat,i < 4→row T (4 * p+1+i)=row U (4 * p+1+i)):belowF T p=belowF U p:=by
 unfold belowF
 rw [belowTo_congr (fun i hi=>?_) 4 (by omega)]
 rw [show (4 * (p:Int)+1+i).toNat=4 * p+1+i by omega];exact h i hi
theorem below_fix {T:List Nat} {p q:Nat} (h:T.length=672) (hq:q < 21) (hpq:q < 4 * p+1∨4 * p+4 < q):belowF (fixF T q) p=belowF T p:=
 below_congr fun i hi=>row_fix_ne h hq (by omega)
theorem inner_row {T:List Nat} (h:T.length=672) {r:Nat} (hr:5≤r):∀ k,row (innerTo T k) r=row T r
 | 0=>rfl
 | k+1=>by rw [innerTo,row_fix_ne (innerTo_len h k) (by omega) (by omega),inner_row h hr k]
theorem inner_right {T:List Nat} (h:T.length=672):∀ k,k≤5→∀ p,5 - k≤p→p < 5→row (innerTo T k) p=sum (belowF (innerTo T k) p)
 | 0,_,p,h1,h2=>by omega
 | k+1,hk,p,h1,h2=>by
  have hl:=innerTo_len h k
  rw [innerTo]
  rw [below_fix hl (by omega) (.inl (by omega))]
  by_cases hp:p=4 - k
  ·subst hp;rw [row_fix hl (by omega)]
  ·rw [row_fix_ne hl (by omega) hp];exact inner_right h k (by omega) p (by omega) h2
theorem right_inner {T:List Nat} (h:T.length=672):rightF (innerF T)=true:=decide_eq_true fun p hp=>inner_right h 5 (by omega) p (by omega) hp
theorem right_row {T:List Nat} (h:rightF T=true) {p:Nat} (hp:p < 5):row T p=sum (belowF T p):=(of_decide_eq_true h:okTo T 5) p hp
theorem leaves_row (ls:List (List Nat)):∀ k,k≤16→∀ i,i < k→row (leavesTo ls k) (5+i)=leafD (ls.getD i default)
 | 0,_,i,h=>by omega
 | k+1,hk,i,h=>by
  have hl:=leavesTo_len ls k (by omega)
  rw [leavesTo]
  by_cases e:i=k
  ·subst e;exact rowOf_setRow (by omega) (leafD_len _)
  ·rw [row,rowOf_setRow_ne (by omega) (leafD_len _) (by omega)];exact leaves_row ls k (by omega) i (by omega)
theorem of_row (ls:List (List Nat)) {i:Nat} (h:i < 16):row (ofF ls) (5+i)=leafD (ls.getD i default):=by
 unfold ofF innerF;rw [inner_row (leavesTo_len ls 16 (by omega)) (by omega),leaves_row ls 16 (by omega) i h]
theorem of_right (ls:List (List Nat)):rightF (ofF ls)=true:=right_inner (leavesTo_len ls 16 (by omega))
section withs
variable {T:List Nat} {n:Nat} {b:List Nat}
end withs
theorem below4 {T:List Nat} {p:Nat} (hp:p≤4):belowF T p=[1]++row T (4 * p+1)++row T (4 * p+2)++row T (4 * p+3)++row T (4 * p+4):=by
 unfold belowF
 rw [if_pos (by omega)]
 simp only [belowTo]
 rw [show (4 * (p:Int)+1+(0:Nat)).toNat=4 * p+1 by omega,show (4 * (p:Int)+1+(1:Nat)).toNat=4 * p+2 by omega,show (4 * (p:Int)+1+(2:Nat)).toNat=4 * p+3 by omega,show (4 * (p:Int)+1+(3:Nat)).toNat=4 * p+4 by omega]
end Go.Aw.Tree
namespace Go.Aw.Clash
open Go.Aw Go.Aw.Sha Go.Aw.Tree
set_option linter.unusedVariables false
set_option linter.unusedSimpArgs false
attribute [local irreducible] sum
def un (T U:List Nat) (p:Int):Bool:=decide (row T p.toNat≠row U p.toNat)
def kidsL (l:List Int):List Int:=l.flatMap kidsF
def digsL (T:List Nat) (l:List Int):List (List Nat):=l.map fun p=>row T p.toNat
def unL (T U:List Nat) (l:List Int):List Int:=(kidsL l).filter (un T U)
def leavesL (l:List Int):List Int:=(l.filter fun p=>decide (0≤leafOf p)).map leafOf
def walkF (T U:List Nat):List Int × Int × Int:=
 if row T 0=row U 0 then ([],1,0)
 else if unL T U [0]=[] then ([],5,1)
 else if unL T U (unL T U [0])=[] then ([],5+4 * (unL T U [0]).length,2)
 else (unL T U (unL T U [0]),5+4 * (unL T U [0]).length,3)
def wst (T U:List Nat):Nat→List Int × Bool × Int
 | 0=>([0],true,1)
 | 1=>(unL T U [0],false,5)
 | _+2=>(unL T U (unL T U [0]),false,5+4 * (unL T U [0]).length)
def wstP (T U:List Nat) (r:Nat):Prop:=r≤2∧(1≤r→unL T U [0]≠[])∧(2≤r→unL T U (unL T U [0])≠[])∧row T 0≠row U 0
theorem kidsL_0:kidsL [0]=[1,2,3,4]:=rfl
theorem unL_0 {T U:List Nat}:unL T U [0]=([1,2,3,4]:List Int).filter (un T U):=rfl
theorem unL_in {T U:List Nat} {p:Int} (h:p∈unL T U [0]):1≤p∧p≤4:=by
 rw [unL_0] at h
 have:=(List.mem_filter.1 h).1
 simp at this;omega
theorem kidsL_len {l:List Int} (h:∀ p∈l,0≤p∧p≤4):(kidsL l).length=4 * l.length:=by
 induction l with
 | nil=>rfl
 | cons a l ih=>
  unfold kidsL at *
  rw [List.flatMap_cons,List.length_append,ih fun p hp=>h p (by simp [hp]),kidsF_in (h a (by simp)),List.length_cons]
  simp only [List.length_cons,List.length_nil];omega
theorem kidsL_in {l:List Int} (h:∀ p∈l,1≤p∧p≤4) {p:Int} (hp:p∈kidsL l):5≤p∧p≤20:=by
 obtain ⟨q,hq,hpq⟩:=List.mem_flatMap.1 hp
 have:=h q hq
 rw [kidsF_in (by omega)] at hpq
 simp at hpq;omega
theorem kidsL_snoc {l:List Int} {i:Nat} (h:i < l.length):kidsL (l.take (i+1))=kidsL (l.take i)++kidsF (l.getD i default):=by
 rw [take_snocD h];simp [kidsL]
theorem kidsF_le (p:Int):(kidsF p).length≤4:=by unfold kidsF;split<;>simp
theorem kidsL_le (l:List Int):(kidsL l).length≤4 * l.length:=by
 induction l with
 | nil=>simp [kidsL]
 | cons a l ih=>
  have:=kidsF_le a
  unfold kidsL at *
  rw [List.flatMap_cons,List.length_append,List.length_cons];omega
theorem kidsL_get {l:List Int} {i:Nat} (h:i < (kidsL l).length):0≤(kidsL l).getD i default∧(kidsL l).getD i default < 21:=by
 have hmem:(kidsL l).getD i default∈kidsL l:=by
  rw [List.getD_eq_getElem?_getD,List.getElem?_eq_getElem h];exact List.getElem_mem _
 obtain ⟨q,hq,hpq⟩:=List.mem_flatMap.1 hmem
 by_cases k:0≤q∧q≤4
 ·rw [kidsF_in k] at hpq
  simp only [List.mem_cons,List.not_mem_nil,or_false] at hpq
  omega
 ·rw [kidsF_out k] at hpq;cases hpq
theorem digsL_snoc {T:List Nat} {l:List Int} {i:Nat} (h:i < l.length):digsL T (l.take (i+1))=digsL T (l.take i)++[row T (l.getD i default).toNat]:=by
 rw [take_snocD h];simp [digsL]
theorem filter_snoc {u:Int→Bool} {l:List Int} {i:Nat} (h:i < l.length):(l.take (i+1)).filter u=(l.take i).filter u++(if u (l.getD i default) then [l.getD i default] else []):=by
 rw [take_snocD h,List.filter_append]
 generalize l.getD i default=a
 by_cases k:u a=true<;>simp [k]
theorem leavesL_snoc {l:List Int} {i:Nat} (h:i < l.length):leavesL (l.take (i+1))=leavesL (l.take i)++(if 0≤leafOf (l.getD i default) then [leafOf (l.getD i default)] else []):=by
 unfold leavesL
 rw [filter_snoc h,List.map_append]
 generalize l.getD i default=a
 by_cases k:0≤leafOf a<;>simp [k]
theorem digsL_get {T:List Nat} {l:List Int} {i:Nat} (h:i < l.length):(digsL T l).getD i default=row T (l.getD i default).toNat:=by
 simp [digsL,List.getD_eq_getElem?_getD,h]
theorem leavesL_le (l:List Int):(leavesL l).length≤l.length:=by
 unfold leavesL;rw [List.length_map];exact List.length_filter_le ..
theorem unL_two {T U:List Nat} {p:Int} (h:p∈unL T U (unL T U [0])):5≤p∧p≤20:=by
 have:=(List.mem_filter.1 h).1
 exact kidsL_in (fun p hp=>unL_in hp) this
theorem kids_two {T U:List Nat}:kidsL (unL T U (unL T U [0]))=[]:=by
 unfold kidsL
 refine List.flatMap_eq_nil_iff.2 fun p hp=>?_
 have:=unL_two hp
 exact kidsF_out (by omega)
theorem kids_one {T U:List Nat}:(kidsL (unL T U [0])).length=4 * (unL T U [0]).length:=kidsL_len fun p hp=>by have:=unL_in hp;omega
theorem unL_le {T U:List Nat} (l:List Int):(unL T U l).length≤4 * l.length:=by
 have h1:=List.length_filter_le (un T U) (kidsL l)
 have h2:=kidsL_le l
 unfold unL;omega
theorem wst_len {T U:List Nat} (r:Nat):(wst T U r).1.length≤100:=by
 have h1:=unL_le (T:=T) (U:=U) [0]
 have h2:=unL_le (T:=T) (U:=U) (unL T U [0])
 simp only [List.length_cons,List.length_nil] at h1
 match r with
 | 0=>simp [wst]
 | 1=>simp only [wst];omega
 | r+2=>simp only [wst];omega
theorem wst_k {T U:List Nat} (r:Nat):0≤(wst T U r).2.2∧(wst T U r).2.2≤1000:=by
 have h1:=unL_le (T:=T) (U:=U) [0]
 simp only [List.length_cons,List.length_nil] at h1
 match r with
 | 0=>simp [wst]
 | 1=>simp [wst]
 | r+2=>simp only [wst];omega
theorem wst_end {T U:List Nat} {r:Nat} (h:wstP T U r) (hk:kidsL (wst T U r).1=[]):walkF T U=((wst T U r).1,(wst T U r).2.2,(r:Int)+1)∧(wst T U r).2.1=false:=by
 obtain ⟨h1,h2,h3,h4⟩:=h
 match r,h1,h2,h3,hk with
 | 0,_,_,_,hk=>simp [wst,kidsL_0] at hk
 | 1,_,h2,_,hk=>
  have:=kids_one (T:=T) (U:=U)
  simp only [wst] at hk
  rw [hk] at this
  have h5:=h2 (by omega)
  have:(unL T U [0]).length=0:=by rw [List.length_nil] at this;omega
  exact absurd (List.eq_nil_of_length_eq_zero this) h5
 | 2,_,h2,h3,hk=>
  refine ⟨?_,rfl⟩
  unfold walkF
  rw [if_neg h4,if_neg (h2 (by omega)),if_neg (h3 (by omega))];rfl
theorem wst_stop {T U:List Nat} {r:Nat} (h:wstP T U r) (hk:kidsL (wst T U r).1≠[]) (hu:unL T U (wst T U r).1=[]):walkF T U=([],(wst T U r).2.2+(kidsL (wst T U r).1).length,(r:Int)+1):=by
 obtain ⟨h1,h2,h3,h4⟩:=h
 match r,h1,h2,h3,hk,hu with
 | 0,_,_,_,hk,hu=>
  unfold walkF
  have hu':unL T U [0]=[]:=hu
  rw [if_neg h4,if_pos hu'];rfl
 | 1,_,h2,_,hk,hu=>
  unfold walkF
  have hu':unL T U (unL T U [0])=[]:=hu
  rw [if_neg h4,if_neg (h2 (by omega)),if_pos hu']
  have:=kids_one (T:=T) (U:=U)
  simp only [wst]
  rw [this]
  refine Prod.ext rfl (Prod.ext ?_ rfl)
  dsimp only;omega
 | 2,_,h2,h3,hk,hu=>exact absurd kids_two hk
theorem wst_next {T U:List Nat} {r:Nat} (h:wstP T U r) (hk:kidsL (wst T U r).1≠[]) (hu:unL T U (wst T U r).1≠[]):r≤1∧wst T U (r+1)=(unL T U (wst T U r).1,false,(wst T U r).2.2+(kidsL (wst T U r).1).length)∧wstP T U (r+1):=by
 obtain ⟨h1,h2,h3,h4⟩:=h
 match r,h1,h2,h3,hk,hu with
 | 0,_,_,_,hk,hu=>exact ⟨by omega,rfl,by omega,fun _=>hu,fun k=>by omega,h4⟩
 | 1,_,h2,_,hk,hu=>
  refine ⟨by omega,?_,by omega,fun _=>h2 (by omega),fun _=>hu,h4⟩
  have:=kids_one (T:=T) (U:=U)
  simp only [wst]
  rw [this]
  refine Prod.ext rfl (Prod.ext rfl ?_)
  dsimp only;omega
 | 2,_,h2,h3,hk,hu=>exact absurd kids_two hk
theorem walkF_len {T U:List Nat}:(walkF T U).1.length≤100:=by
 have h:=wst_len (T:=T) (U:=U) 2
 unfold walkF
 split
 ·simp
 ·split
  ·simp
  ·split
   ·simp
   ·exact h
def madeF (ls:List (List Nat)) (T:List Nat) (p:Int):List Nat:=if 0≤leafOf p then 0::ls.getD (leafOf p).toNat default else belowF T p
theorem made_sum {ls:List (List Nat)} {p:Nat} (hp:p < 21):sum (madeF ls (ofF ls) p)=row (ofF ls) p:=by
 unfold madeF leafOf
 by_cases h:5≤p
 ·rw [if_pos (by rw [if_pos (by omega)];omega),if_pos (by omega)]
  have:=of_row ls (i:=p - 5) (by omega)
  rw [show 5+(p - 5)=p by omega] at this
  rw [this,show ((p:Int) - 5).toNat=p - 5 by omega];rfl
 ·rw [if_neg (by rw [if_neg (by omega)];omega)]
  exact (right_row (of_right ls) (by omega)).symm
end Go.Aw.Clash
