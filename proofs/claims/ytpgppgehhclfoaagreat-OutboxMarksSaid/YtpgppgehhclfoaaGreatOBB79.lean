/- THE ABSTRACT WALK, part 29: a run that stops ahead of the return; a new generation of an own slice that nobody names; a variable whose cells hold an own slice, as one object. Nothing here speaks of a program. -/
import Derived.Test.YtpgppgehhclfoaaGreatOBA09
import Derived.Test.YtpgppgehhclfoaaGreatOBA07
namespace Go.Aw
open Go Go.RowKit
set_option linter.unusedVariables false
set_option linter.unusedSimpArgs false
theorem stpR {X Y:Prop} (e:Y→X:=by
  first|exact rn_nil|exact rk_nil|exact aws_seq|exact aws_region|exact aws_skip|exact aws_label|exact aws_goto|exact aws_exit|exact aws_nil|exact aws_blk_s|exact aws_blk_r|exact aws_blk_c|exact blk_exit|exact blk_normal|exact blk_ret|fail) (h:Y):X:=e h
theorem says_bump {C:Ctx} {σ:St} {o n ty es:Nat} {mo:Option MO} (hm:σ.mem o=(n,mo)) (hes:0 < es):Says C σ (σ.put o (n+1,some (.buf ty es []))):=by
 rintro a w ⟨G,h⟩
 have hlen:(G.μ o).length=n:=by have:=h.gens o;rw [hm] at this;exact this
 exact ⟨_,h.upd (o:=o) (n':=n+1) (mo':=some (.buf ty es [])) (μo:=G.μ o++[(none,0)]) (fp':=[]) (w':=w) (fun g x hx=>by
  rw [List.getElem?_append_left (List.getElem?_eq_some_iff.1 hx).1];exact hx) (by simp [hlen]) rfl .same rfl (Nat.le_refl _) (fun _ _ _=>rfl) (fun b hb=>by simp at hb) (fun mo hmo=>by
   obtain rfl:=Option.some.inj hmo
   exact ⟨n,(none,0),rfl,by simp [hlen],hes,by simp [maxLen],Nat.le_refl _,.inl ⟨rfl,rfl,rfl⟩⟩)⟩
def pkA (ty:TypeId) (pre post:List PVal) (tyB:TypeId) (es:Nat) (rows:List (List PVal)):AObj where
 holds X b fp:=∃ (m:Option Nat) (c:Nat) (f2:List Nat) (u v:List Value),X.w.heap[b]?=some (.cells (u++.slice (m.map fun b=>⟨b,0,none⟩) rows.length c::v).toArray ty (0,0))∧fp=b::f2∧b ∉ f2∧
  All2 (fun p x=>p.holds X x) pre u∧All2 (fun p x=>p.holds X x) post v∧(MO.buf tyB es rows).holds Mu.none X (m,c) f2
 mono:=by
  rintro x y b fp hle hf ⟨m,c,f2,u,v,h1,rfl,h3,h4,h5,h6⟩
  exact ⟨m,c,f2,u,v,(hf b (by simp)).trans h1,rfl,h3,h4.mono fun p _ k=>p.mono hle k,h5.mono fun p _ k=>p.mono hle k,h6.mono (Mu.le.refl _) hle fun k hk=>hf k (by simp [hk])⟩
theorem all2_ac {μ:Mu} {X:Wd} {ps:List PVal} {vs:List Value}:All2 (AC.holds μ X) (ps.map .p) vs↔All2 (fun p x=>p.holds X x) ps vs:=by
 unfold All2
 simp only [List.length_map]
 refine and_congr Iff.rfl ⟨fun h i a b ha hb=>?_,fun h i a b ha hb=>?_⟩
 ·exact h i (.p a) b (by rw [List.getElem?_map,ha];rfl) hb
 ·rw [List.getElem?_map] at ha
  cases hx:ps[i]? with
  | none=>rw [hx] at ha;cases ha
  | some x=>rw [hx] at ha;simp at ha;subst ha;exact h i x b hx hb
theorem All2.split_inv {α β:Type} {R:α→β→Prop} {l l':List α} {m:List β} (h:All2 R (l++l') m):∃ u v,m=u++v∧All2 R l u∧All2 R l' v:=by
 refine ⟨m.take l.length,m.drop l.length,(List.take_append_drop _ _).symm,?_,?_⟩
 ·have:=h.take l.length
  rwa [List.take_left] at this
 ·have:=h.drop l.length
  rwa [List.drop_left] at this
theorem says_pack {C:Ctx} {σ:St} {p np ty o g n tyB es len:Nat} {pre post:List PVal} {cs:List AC} {rows:List (List PVal)} (hp:σ.mem p=(np,some (.box ty cs))) (hcs:cs=pre.map .p++.osl o g es 0 len::post.map .p) (hm:σ.mem o=(n,some (.buf tyB es rows))) (hn:n=g+1) (hl:len=rows.length) (hne:p≠o) :
  Says C σ ((σ.put o (n,none)).put p (np,some (.abs (pkA ty pre post tyB es rows)))):=by
 subst hn hl hcs
 rintro a w ⟨G,h⟩
 obtain ⟨gp,mp,e1,e2,b,arr,e3,e4,e5,e6⟩:=h.mem p _ _ hp
 obtain ⟨go,m,k1,k2,k3⟩:=h.mem o _ _ hm
 obtain rfl:g=go:=by omega
 obtain ⟨u,v,rfl,q1,q2⟩:=e6.split_inv
 obtain ⟨x,v,rfl,q3,q4⟩:=q2.cons_inv
 obtain ⟨m',c,r1,r2,r3⟩:=q3
 rw [r1] at k2;obtain rfl:=Option.some.inj k2
 simp only [Nat.zero_mul,Nat.sub_zero] at r3
 subst r3
 have hbo:b ∉ G.φ o:=fun hb=>h.apart p o b hne (by rw [e4];simp) hb
 have hfp:∀ {x k},k∈(if x=p then b::G.φ o else if x=o then [] else G.φ x)→(x=p∧(k∈G.φ p∨k∈G.φ o))∨(x≠p∧x≠o∧k∈G.φ x):=fun {x k} hk=>by
  by_cases hx:x=p
  ·rw [if_pos hx] at hk
   refine .inl ⟨hx,?_⟩
   rw [e4]
   simpa using hk
  ·rw [if_neg hx] at hk
   by_cases hxo:x=o
   ·rw [if_pos hxo] at hk;cases hk
   ·rw [if_neg hxo] at hk;exact .inr ⟨hx,hxo,hk⟩
 refine ⟨⟨G.μ,G.S,fun x=>if x=p then b::G.φ o else if x=o then [] else G.φ x⟩,?_⟩
 exact {
  size:=h.size
  defers:=fun d hd=>by
   obtain ⟨b',rfl,h1,h2,h3,h4,h5⟩:=h.defers d hd
   refine ⟨b',rfl,h1,h2,h3,h4,fun x hx=>?_⟩
   rcases hfp hx with ⟨_,k|k⟩ | ⟨_,_,k⟩
   ·exact h5 _ k
   ·exact h5 _ k
   ·exact h5 _ k
  dnod:=h.dnod
  mle:=h.mle
  env:=h.env
  gens:=fun x=>by
   by_cases hx:x=p
   ·subst hx;have:=h.gens x;rw [hp] at this;simpa [St.put] using this
   ·by_cases hxo:x=o
    ·subst hxo;have:=h.gens x;rw [hm] at this;simpa [St.put,hx] using this
    ·simpa [St.put,hx,hxo] using h.gens x
  mem:=fun x n mo hx=>by
   by_cases hxp:x=p
   ·subst hxp
    simp only [St.put,if_true,Prod.mk.injEq] at hx
    obtain ⟨rfl,hx⟩:=hx
    obtain rfl:=Option.some.inj hx
    refine ⟨gp,mp,e1,e2,b,e3,?_⟩
    refine ⟨m',c,G.φ o,u,v,e5,by simp,hbo,all2_ac.1 q1,all2_ac.1 q4,?_⟩
    exact k3
   ·by_cases hxo:x=o
    ·subst hxo
     simp [St.put,hxp] at hx
    ·simp only [St.put,hxp,hxo,if_false] at hx ⊢
     exact h.mem x n mo hx
  apart:=fun x y b' hxy hbx hby=>by
   rcases hfp hbx with ⟨rfl,k|k⟩ | ⟨k1,k2,k⟩<;>rcases hfp hby with ⟨rfl,q|q⟩ | ⟨q1,q2,q⟩
   ·exact hxy rfl
   ·exact hxy rfl
   ·exact h.apart _ _ b' hxy k q
   ·exact hxy rfl
   ·exact hxy rfl
   ·exact h.apart _ _ b' (Ne.symm q2) k q
   ·exact h.apart _ _ b' hxy k q
   ·exact h.apart _ _ b' k2 k q
   ·exact h.apart _ _ b' hxy k q
  stab:=fun x b' hb=>by
   rcases hfp hb with ⟨_,k|k⟩ | ⟨_,_,k⟩
   ·exact h.stab _ b' k
   ·exact h.stab _ b' k
   ·exact h.stab _ b' k
  own:=fun x b' hb=>by
   rcases hfp hb with ⟨_,k|k⟩ | ⟨_,_,k⟩
   ·exact h.own _ b' k
   ·exact h.own _ b' k
   ·exact h.own _ b' k
  sbd:=h.sbd
  ssub:=h.ssub
  fr:=h.fr }
theorem says_unpack {C:Ctx} {σ:St} {p np ty o n tyB es:Nat} {mo:Option MO} {pre post:List PVal} {cs:List AC} {rows:List (List PVal)} (hp:σ.mem p=(np,some (.abs (pkA ty pre post tyB es rows)))) (hm:σ.mem o=(n,mo)) (hcs:pre.map .p++.osl o n es 0 rows.length::post.map .p=cs) (hne:p≠o) :
  Says C σ ((σ.put o (n+1,some (.buf tyB es rows))).put p (np,some (.box ty cs))):=by
 subst hcs
 rintro a w ⟨G,h⟩
 obtain ⟨gp,mp,e1,e2,b,e3,m,c,f2,u,v,e4,e5,e6,e7,e8,e9⟩:=h.mem p _ _ hp
 have hlen:(G.μ o).length=n:=by have:=h.gens o;rw [hm] at this;exact this
 have hmu:G.μ.le (fun x=>if x=o then G.μ o++[(m,c)] else G.μ x):=fun x g y hy=>by
  by_cases hx:x=o
  ·subst hx
   simp only [if_true]
   rw [List.getElem?_append_left (List.getElem?_eq_some_iff.1 hy).1];exact hy
  ·simpa [hx] using hy
 have hfp:∀ {x k},k∈(if x=o then f2 else if x=p then [b] else G.φ x)→k∈G.φ (if x=o then p else x)∧(x=o→k∈f2)∧(x=p→k=b):=fun {x k} hk=>by
  by_cases hx:x=o
  ·rw [if_pos hx] at hk
   subst hx
   refine ⟨by rw [if_pos rfl,e5];simp [hk],fun _=>hk,fun e=>absurd e.symm hne⟩
  ·rw [if_neg hx] at hk
   rw [if_neg hx]
   by_cases hxp:x=p
   ·rw [if_pos hxp] at hk
    subst hxp
    have:k=b:=by simpa using hk
    exact ⟨by rw [e5,this];simp,fun e=>absurd e hx,fun _=>this⟩
   ·rw [if_neg hxp] at hk
    exact ⟨hk,fun e=>absurd e hx,fun e=>absurd e hxp⟩
 refine ⟨⟨fun x=>if x=o then G.μ o++[(m,c)] else G.μ x,G.S,fun x=>if x=o then f2 else if x=p then [b] else G.φ x⟩,?_⟩
 exact {
  size:=h.size
  defers:=fun d hd=>by
   obtain ⟨b',rfl,h1,h2,h3,h4,h5⟩:=h.defers d hd
   exact ⟨b',rfl,h1,h2,h3,h4,fun x hx=>h5 _ (hfp hx).1⟩
  dnod:=h.dnod
  mle:=h.mle.trans hmu
  env:=fun t=>(h.env t).mono hmu (Wd.le.refl _)
  gens:=fun x=>by
   by_cases hx:x=o
   ·subst hx;simp [St.put,hne.symm,hlen]
   ·by_cases hxp:x=p
    ·subst hxp;have:=h.gens x;rw [hp] at this;simpa [St.put,hx] using this
    ·simpa [St.put,hx,hxp] using h.gens x
  mem:=fun x n' mo' hx=>by
   by_cases hxp:x=p
   ·subst hxp
    simp only [St.put,if_true,Prod.mk.injEq] at hx
    obtain ⟨rfl,hx⟩:=hx
    obtain rfl:=Option.some.inj hx
    refine ⟨gp,mp,e1,by simpa [hne] using e2,b,_,e3,by simp [hne],e4,?_⟩
    refine (all2_ac.2 e7).append (.cons ?_ (all2_ac.2 e8))
    refine ⟨m,c,by simp [hlen],?_,by simp⟩
    obtain ⟨_,_,hrl,_⟩:=e9
    simpa using hrl
   ·by_cases hxo:x=o
    ·subst hxo
     simp only [St.put,hxp,if_false,if_true,Prod.mk.injEq] at hx
     obtain ⟨rfl,hx⟩:=hx
     obtain rfl:=Option.some.inj hx
     refine ⟨n,(m,c),rfl,by simp [hlen],?_⟩
     simp only [if_true]
     exact e9
    ·simp only [St.put,hxp,hxo,if_false] at hx
     obtain ⟨g,m2,hn,hm2,hh⟩:=h.mem x n' mo' hx
     refine ⟨g,m2,hn,by simpa [hxo] using hm2,?_⟩
     simp only [hxo,hxp,if_false]
     exact hh.mono hmu (Wd.le.refl _) fun k hk=>rfl
  apart:=fun x y b' hxy hbx hby=>by
   have h1:=hfp hbx
   have h2:=hfp hby
   by_cases hx:x=o<;>by_cases hy:y=o
   ·exact hxy (hx.trans hy.symm)
   ·by_cases hyp:y=p
    ·have a1:=h1.2.1 hx
     have a2:=h2.2.2 hyp
     subst a2;exact e6 a1
    ·have a1:=h1.1
     have a2:=h2.1
     rw [if_pos hx] at a1
     rw [if_neg hy] at a2
     exact h.apart p y b' (Ne.symm hyp) a1 a2
   ·by_cases hxp:x=p
    ·have a1:=h2.2.1 hy
     have a2:=h1.2.2 hxp
     subst a2;exact e6 a1
    ·have a1:=h1.1
     have a2:=h2.1
     rw [if_neg hx] at a1
     rw [if_pos hy] at a2
     exact h.apart x p b' hxp a1 a2
   ·have a1:=h1.1
    have a2:=h2.1
    rw [if_neg hx] at a1
    rw [if_neg hy] at a2
    exact h.apart x y b' hxy a1 a2
  stab:=fun x b' hb=>h.stab _ b' (hfp hb).1
  own:=fun x b' hb=>h.own _ b' (hfp hb).1
  sbd:=h.sbd
  ssub:=h.ssub
  fr:=h.fr }
end Go.Aw
namespace Go.Proofs.YtpgppgehhclfoaaGreat.Wi
open Go Go.RowKit Go.Aw
set_option linter.unusedVariables false
set_option linter.unusedSimpArgs false
def beF:Nat→Nat→List Nat
 | 0,_=>[]
 | f+1,x=>if x=0 then [] else beF f (x / 256)++[x % 256]
def be (x:Nat):List Nat:=beF 8 x
def numB (x:Nat):List Nat:=(be x).length::be x
theorem beF_zero:∀ f,beF f 0=[]
 | 0=>rfl
 | _+1=>rfl
theorem beF_le:∀ f x,(beF f x).length≤f
 | 0,_=>Nat.le_refl _
 | f+1,x=>by
  rw [beF]
  split
  ·exact Nat.zero_le _
  ·have:=beF_le f (x / 256)
   rw [List.length_append,List.length_singleton];omega
theorem beF_byte:∀ f x,∀ b∈beF f x,b < 256
 | 0,_=>fun b h=>by cases h
 | f+1,x=>fun b h=>by
  rw [beF] at h
  split at h
  ·cases h
  ·rcases List.mem_append.1 h with k|k
   ·exact beF_byte f _ b k
   ·rw [List.mem_singleton.1 k];exact Nat.mod_lt _ (by decide)
theorem beF_step {f x:Nat} (h:x≠0):(beF (f+1) x).length=(beF f (x / 256)).length+1:=by
 rw [beF,if_neg h,List.length_append,List.length_singleton]
theorem beF_get:∀ (f x j:Nat),j < (beF f x).length→(beF f x).getD j default=x / 256 ^ ((beF f x).length - 1 - j) % 256
 | 0,x,j,h=>by exact absurd h (Nat.not_lt_zero _)
 | f+1,x,j,h=>by
  by_cases hx:x=0
  ·subst hx;rw [beF_zero] at h;exact absurd h (Nat.not_lt_zero _)
  ·have hl:=beF_step (f:=f) hx
   have ih:=beF_get f (x / 256) j
   rw [hl]
   rw [beF,if_neg hx] at h ⊢
   rw [List.length_append,List.length_singleton] at h
   by_cases hj:j < (beF f (x / 256)).length
   ·rw [List.getD_eq_getElem?_getD,List.getElem?_append_left hj,← List.getD_eq_getElem?_getD,ih hj,Nat.div_div_eq_div_mul]
    congr 2
    rw [show (beF f (x / 256)).length+1 - 1 - j=((beF f (x / 256)).length - 1 - j)+1 by omega,Nat.pow_succ,Nat.mul_comm]
   ·obtain rfl:j=(beF f (x / 256)).length:=by omega
    rw [List.getD_eq_getElem?_getD,List.getElem?_append_right (Nat.le_refl _),Nat.sub_self,show (beF f (x / 256)).length+1 - 1 - (beF f (x / 256)).length=0 by omega]
    simp
theorem be_take {x j:Nat} (h:j < (be x).length):(be x).take (j+1)=(be x).take j++[x / 256 ^ ((be x).length - 1 - j) % 256]:=by
 show (beF 8 x).take (j+1)=(beF 8 x).take j++[x / 256 ^ ((beF 8 x).length - 1 - j) % 256]
 have h':j < (beF 8 x).length:=h
 rw [← beF_get 8 x j h',List.take_succ_eq_append_getElem h',List.getD_eq_getElem?_getD,List.getElem?_eq_getElem h'];rfl
theorem pow8 (i:Nat):2 ^ (8 * i)=256 ^ i:=by rw [Nat.pow_mul]
/-! what bytes say -/
abbrev RS:=List Nat × Int
def takeS (n:Nat) (r:RS):List Nat × RS:=if r.2≠0 then ([],r) else if r.1.length < n then ([],(r.1,8)) else (r.1.take n,(r.1.drop n,0))
def mustS (is:Bool) (r:RS):RS:=if r.2=0∧is=false then (r.1,3) else r
def valB (l:List Nat):Nat:=l.foldl (fun n c=>n * 256+c) 0
def numR1 (r:RS):RS:=mustS (decide ((((takeS 1 r).1.getD (0:Int).toNat default:Nat):Int)≤8)) (takeS 1 r).2
def numL (r:RS):List Nat × RS:=takeS ((takeS 1 r).1.getD (0:Int).toNat default) (numR1 r)
def numR2 (r:RS):RS:=mustS (if (numL r).1.length=0 then true else decide (0 < (((numL r).1.getD (0:Int).toNat default:Nat):Int))) (numL r).2
def numS (r:RS):Nat × RS:=if (takeS 1 r).1.length=0 then (0,(takeS 1 r).2) else (if (numR2 r).2=0 then valB (numL r).1 else 0,numR2 r)
def smallS (most:Int) (r:RS):Int × RS:=
 (if (mustS (decide (0≤most)&&decide (((numS r).1:Int)≤most)) (numS r).2).2=0 then ((numS r).1:Int) else 0,mustS (decide (0≤most)&&decide (((numS r).1:Int)≤most)) (numS r).2)
theorem take_byte {n:Nat} {r:RS} (h:∀ b∈r.1,b < 256):(∀ b∈(takeS n r).1,b < 256)∧∀ b∈(takeS n r).2.1,b < 256:=by
 unfold takeS
 split
 ·exact ⟨fun b k=>(by cases k),h⟩
 ·split
  ·exact ⟨fun b k=>(by cases k),h⟩
  ·exact ⟨fun b k=>h b (List.mem_of_mem_take k),fun b k=>h b (List.mem_of_mem_drop k)⟩
theorem take_len {n:Nat} {r:RS}:(takeS n r).1.length≤n∧(takeS n r).1.length≤r.1.length∧(takeS n r).2.1.length≤r.1.length:=by
 unfold takeS
 split
 ·exact ⟨Nat.zero_le _,Nat.zero_le _,Nat.le_refl _⟩
 ·split
  ·exact ⟨Nat.zero_le _,Nat.zero_le _,Nat.le_refl _⟩
  ·simp only [List.length_take,List.length_drop];omega
theorem must_1 {is:Bool} {r:RS}:(mustS is r).1=r.1:=by unfold mustS;split<;>rfl
theorem take_bad {n:Nat} {r:RS} (h:r.2≠0):takeS n r=([],r):=by unfold takeS;rw [if_pos h]
theorem numL_len (r:RS):(numL r).1.length≤8:=by
 unfold numL
 by_cases h:(takeS 1 r).1.getD (0:Int).toNat default≤8
 ·exact Nat.le_trans take_len.1 h
 ·have:(numR1 r).2≠0:=by
   unfold numR1 mustS
   rw [decide_eq_false (by omega)]
   by_cases k:(takeS 1 r).2.2=0
   ·rw [if_pos ⟨k,rfl⟩];exact (by decide:(3:Int)≠0)
   ·rw [if_neg (fun q=>k q.1)];exact k
  rw [take_bad this];exact Nat.zero_le _
theorem numR1_byte {r:RS} (h:∀ b∈r.1,b < 256):∀ b∈(numR1 r).1,b < 256:=by
 unfold numR1;rw [must_1];exact (take_byte h).2
theorem numL_byte {r:RS} (h:∀ b∈r.1,b < 256):∀ b∈(numL r).1,b < 256:=(take_byte (numR1_byte h)).1
theorem valB_snoc (l:List Nat) (c:Nat):valB (l++[c])=valB l * 256+c:=by unfold valB;rw [List.foldl_append];rfl
theorem valB_lt:∀ (n:Nat) (l:List Nat),l.length=n→(∀ b∈l,b < 256)→valB l < 256 ^ n
 | 0,l,h,_=>by rw [List.eq_nil_of_length_eq_zero h];decide
 | n+1,l,h,hb=>by
  obtain ⟨l',c,rfl⟩:∃ l' c,l=l'++[c]:=⟨l.dropLast,l.getLast (by intro e;rw [e] at h;cases h),(List.dropLast_concat_getLast _).symm⟩
  rw [List.length_append,List.length_singleton] at h
  have ih:=valB_lt n l' (by omega) fun b k=>hb b (List.mem_append_left _ k)
  have hc:=hb c (List.mem_append_right _ List.mem_cons_self)
  rw [valB_snoc,Nat.pow_succ];omega
theorem valB_fit {l:List Nat} (h:l.length≤8) (hb:∀ b∈l,b < 256):valB l < 18446744073709551616:=by
 have h1:=valB_lt l.length l rfl hb
 have h2:256 ^ l.length≤256 ^ 8:=Nat.pow_le_pow_right (by decide) h
 exact Nat.lt_of_lt_of_le h1 h2
theorem numS_fit {r:RS} (h:∀ b∈r.1,b < 256):(numS r).1 < 18446744073709551616:=by
 unfold numS
 split
 ·exact (by decide:0 < 18446744073709551616)
 ·dsimp only
  split
  ·exact valB_fit (numL_len r) (numL_byte h)
  ·decide
theorem byte_in {a c M:Nat} (ha:a * 256+c < M) (hc:c < 256):((a * 256) % M % M||| c % M % M)=a * 256+c:=by
 have h1:c < M:=by omega
 have h2:a * 256 < M:=Nat.lt_of_le_of_lt (Nat.le_add_right _ c) ha
 rw [Nat.mod_eq_of_lt h1,Nat.mod_eq_of_lt h1,Nat.mod_eq_of_lt h2,Nat.mod_eq_of_lt h2]
 have:=Nat.shiftLeft_add_eq_or_of_lt (i:=8) (show c < 2 ^ 8 from hc) a
 rw [Nat.shiftLeft_eq] at this
 exact this.symm
end Go.Proofs.YtpgppgehhclfoaaGreat.Wi
namespace Go.Proofs.YtpgppgehhclfoaaGreat.Wi
open Go Go.RowKit Go.Aw
set_option linter.unusedVariables false
set_option linter.unusedSimpArgs false
set_option maxRecDepth 8000
set_option maxHeartbeats 4000000
abbrev bR (n:Nat):List PVal:=[.k .u8 (n:Int)]
abbrev wrA (bs:List Nat):AObj:=pkA 118 [] [] 5 1 (bs.map bR)
theorem lop_ap_byte {C:Ctx} {o:Oper} {σ:St} {T e:TypeId} {x y:Operand} {sz by_ es be:Nat} {ke:TK} {l:List Nat} {z:List Value} {ey:Bool} {ob g n len:Nat} {v:Nat} (ho:o.op=.call ⟨.builtin .append,#[x,y],#[T,T]⟩) (hT:TI C.P T (.slice e) sz by_) (he:TI C.P e ke es be) (hz:TZ C.P e z) (hx:σ.look x=.o (.osl ob g es 0 len)) (hm:σ.mem ob=(n,some (.buf e es (l.map bR)))) (hn:n=g+1) (hlr:len=l.length)
  (hy:σ.look y=.p (.sl es [[.k .u8 (v:Int)]] ey)) (hzl:z.length=es) (h63:l.length+1≤maxLen) (hby:(l.length+1) * be≤140737488355328) (hd:dOk C o.dst=true) :
  LOp C o σ ⟨.o (.osl ob n es 0 (l++[v]).length),[(ob,(n+1,some (.buf e es ((l++[v]).map bR))))]⟩ (fun q=>q == ob):=lop_ap_o1 (f:=bR) (v:=v) ho hT he hz hx hm hn hlr hy rfl hzl h63 hby hd
theorem lop_bs8 {C:Ctx} {o:Oper} {σ:St} {T e:TypeId} {x0:Operand} {sz by_ es be:Nat} {ke:TK} {z:List Value} {p0:PVal} (ho:o.op=.buildSlice T 1 #[(0,x0)]) (hT:TI C.P T (.slice e) sz by_) (he:TI C.P e ke es be) (hz:TZ C.P e z) (h0:σ.look x0=.p p0) (hes:es=1) (hd:dOk C o.dst=true) :
  LOp C o σ ⟨.p (.sl 1 [[p0]] true),[]⟩ (fun _=>false):=by
 subst hes
 exact lop_buildSlice (ps:=[(0,[p0])]) ho (.cons ⟨rfl,by simp,_,h0,by simp [SV.cells]⟩ .nil) rfl (by omega) (by omega) hd
theorem says_unpack' {C:Ctx} {σ:St} {p np ty o n tyB es len:Nat} {mo:Option MO} {pre post:List PVal} {cs:List AC} {rows:List (List PVal)} (hp:σ.mem p=(np,some (.abs (pkA ty pre post tyB es rows)))) (hm:σ.mem o=(n,mo)) (hl:rows.length=len) (hcs:pre.map .p++.osl o n es 0 len::post.map .p=cs) (hne:p≠o) :
  Says C σ ((σ.put o (n+1,some (.buf tyB es rows))).put p (np,some (.box ty cs))):=by
 subst hl;exact says_unpack hp hm hcs hne
namespace W2
theorem lopC {C:Ctx} {o:Oper} {σ:St} {e:Eff} {ro:Nat→Bool} (h:LOp C o σ e ro:=by
  first
   | exact lop_wadd' rfl rfl rfl (by with_reducible (first|rfl|exact lit_nat _|exact ofn_nat _)) (by with_reducible (first|rfl|exact lit_nat _|exact ofn_nat _)) rfl rfl
      | exact lop_wmul' rfl rfl rfl (by with_reducible (first|rfl|exact lit_nat _|exact ofn_nat _)) (by with_reducible (first|rfl|exact lit_nat _|exact ofn_nat _)) rfl rfl
      | exact lop_wsub' rfl rfl rfl (by with_reducible (first|rfl|exact lit_nat _|exact ofn_nat _)) (by with_reducible (first|rfl|exact lit_nat _|exact ofn_nat _)) rfl rfl
      | exact lop_wquo' rfl rfl rfl (by with_reducible (first|rfl|exact lit_nat _|exact ofn_nat _)) (by with_reducible (first|rfl|exact lit_nat _|exact ofn_nat _)) (by decide) rfl rfl
      | exact lop_wrem' rfl rfl rfl (by with_reducible (first|rfl|exact lit_nat _|exact ofn_nat _)) (by with_reducible (first|rfl|exact lit_nat _|exact ofn_nat _)) (by decide) rfl
      | exact lop_wand' rfl rfl rfl (by with_reducible (first|rfl|exact lit_nat _|exact ofn_nat _)) (by with_reducible (first|rfl|exact lit_nat _|exact ofn_nat _)) rfl rfl
      | exact lop_wor' rfl rfl rfl (by with_reducible (first|rfl|exact lit_nat _|exact ofn_nat _)) (by with_reducible (first|rfl|exact lit_nat _|exact ofn_nat _)) rfl rfl
      | exact lop_wxor' rfl rfl rfl (by with_reducible (first|rfl|exact lit_nat _|exact ofn_nat _)) (by with_reducible (first|rfl|exact lit_nat _|exact ofn_nat _)) rfl rfl
      | exact lop_wnot' rfl rfl (by with_reducible (first|rfl|exact lit_nat _|exact ofn_nat _)) rfl rfl
      | exact lop_wshr' rfl rfl (by with_reducible (first|rfl|exact lit_nat _|exact ofn_nat _)) rfl (by first|decide|omega) (by first|decide|(simp only [IntKind.bits];omega)) rfl
      | exact lop_wshl' rfl rfl (by with_reducible (first|rfl|exact lit_nat _|exact ofn_nat _)) rfl (by first|decide|omega) (by first|decide|(simp only [IntKind.bits];omega)) rfl rfl
      | (apply lop_wconv';(focus rfl);(focus exact inferInstance);(focus exact inferInstance);(focus rfl);(focus exact (by with_reducible (first|rfl|exact lit_nat _|exact ofn_nat _)));(focus rfl);(focus rfl))
   | (apply lop_bs8;(focus rfl);(focus exact inferInstance);(focus exact inferInstance);(focus exact inferInstance);(focus rfl);(focus rfl);(focus rfl))
   | (apply lop_ap_byte;(focus rfl);(focus exact inferInstance);(focus exact inferInstance);(focus exact inferInstance);(focus rfl);(focus rfl);(focus rfl);(focus rfl);(focus rfl);(focus rfl);(focus first|(simp only [maxLen,List.length_append,List.length_cons,List.length_nil,List.length_take,List.length_drop,List.length_map];omega)|omega);(focus first|(simp only [maxLen,List.length_append,List.length_cons,List.length_nil,List.length_take,List.length_drop,List.length_map];omega)|omega);(focus rfl))
   | (apply gField;(focus rfl);first|exact lop_fieldAddr_p rfl rfl (by decide) rfl rfl|exact lop_fieldAddr_bx rfl rfl (by decide) rfl rfl)
      | (apply lop_bsa;(focus rfl);(focus exact inferInstance);(focus exact inferInstance);(focus exact inferInstance);(focus repeat' (first|exact All2.nil|(apply bs_cons;(focus rfl);(focus rfl);(focus rfl))));(focus rfl);(focus decide);(focus first|decide|omega);(focus rfl);(focus rfl))
      | (apply lop_mfa1;(focus rfl);(focus rfl);(focus rfl);(focus rfl);(focus rfl);(focus rfl))
      | (apply lop_mfa2;(focus rfl);(focus rfl);(focus rfl);(focus rfl);(focus rfl);(focus rfl);(focus rfl);(focus rfl);(focus rfl);(focus decide);(focus rfl))
      | (apply lop_mfa3;(focus rfl);(focus rfl);(focus rfl);(focus rfl);(focus rfl);(focus rfl);(focus rfl);(focus rfl);(focus rfl);(focus rfl);(focus rfl);(focus rfl);(focus rfl);(focus decide);(focus decide);(focus decide);(focus rfl))
      | (apply gLoad;(focus rfl);apply lop_ld_bxp;(focus rfl);(focus exact inferInstance);(focus rfl);(focus rfl);(focus rfl);(focus rfl);(focus rfl))
   | exact lopJ
   | fail):LOp C o σ e ro:=h
section steps
variable {C:Ctx} {ops:Array Oper} {o:Oper} {rest:List Oper} {K:St→Prop} {σ:St} {e:Eff} {ro:Nat→Bool} {W:List (Nat × Nat)} {i:Nat}
theorem rnC {d:Nat} (hg:Guard ops σ o true:=by first|exact gd_n rfl rfl|exact gd_t rfl rfl rfl rfl|exact gd_t rfl rfl rfl (by assumption)) (hd:o.dst=some d:=by rfl) (h:LOp C o σ e ro:=by exact lopC) (hk:RunN C ops rest K (e.app (some d) σ)):RunN C ops (o::rest) K σ:=rn_any hg hd h hk
theorem rkC {d:Nat} (hg:Guard ops σ o true:=by first|exact gd_n rfl rfl|exact gd_t rfl rfl rfl rfl|exact gd_t rfl rfl rfl (by assumption)) (hd':o.dst=some d:=by rfl) (hd:dOk C o.dst=true:=by rfl) (h:LOp C o σ e ro:=by exact lopC) (hro:∀ x,ro x=true→okObj ops W i x=true:=by first|exact fun _=>ro_none|exact ro_one rfl|exact ro_k1 rfl|exact ro_one (by kernel_rfl)|exact ro_k1 (by kernel_rfl)|exact ro_kIn (by decide)) (hob:∀ p∈e.obj,(i,p.1)∈W:=by first|exact ob_none|exact ob_one (by decide)|decide) (hk:RunK C ops W (i+1) rest K (e.app (some d) σ)):RunK C ops W i (o::rest) K σ:=rk_wr hg hd' hd h hro hob hk
end steps
end W2
open W2
theorem num_o (n:Nat) (bs:List Nat) (x:Nat) (hx:x < 18446744073709551616) (h:bs.length≤1000000000):OCall Tryz.prog 60 [.o (.ptr 1000 n 0),.p (.k .u64 (x:Int))] (memL [(1000,(n+1,some (.abs (wrA bs))))]) (.tup []) (memL [(1000,(n+1,some (.abs (wrA (bs++numB x)))))]):=by
 refine ocall_of1 Tryz.func60 rfl (fun w0 F S0 M0=>?_)
 refine aws_says (says_unpack' (p:=1000) (o:=901) rfl rfl (List.length_map _) rfl (by decide)) ?_
 repeat' (first|refine jx5 ?_|refine jy0 ?_ ?_|exact spF|refine spQ fun hq hq'=>?_|refine spN fun hn=>?_|fail)
 refine aws_loopS [4,5,10,11,12,13,14,15] [] (fun (s:Nat × Nat)=>[(4,.p (.i s.1)),(5,.p (.k .u64 (s.2:Int)))]) (fun _=>[]) (fun s=>s.1≤8∧s.2 < 256 ^ (8 - s.1)∧(be x).length=s.1+(beF (8 - s.1) s.2).length) (fun s=>8 - s.1) (0,x) ⟨Nat.zero_le _,hx,by rw [Nat.zero_add];rfl⟩ (by exact knA) (by exact knA) ?_
 rintro ⟨k,m⟩ β γ ⟨hk,hm,hl⟩
 simp only at hk hm hl
 dsimp only
 by_cases h0:0 < m
 ·have d1:decide (0 < (m:Int))=true:=decide_eq_true (by omega)
  have hk8:k < 8:=by
   rcases Nat.lt_or_ge k 8 with q|q
   ·exact q
   ·rw [show 8 - k=0 by omega,Nat.pow_zero] at hm;omega
  as_aux_lemma=>
   repeat' (first|refine jx5 ?_|refine jy0 ?_ ?_|exact spF|refine spQ fun hq hq'=>?_|refine spN fun hn=>?_|fail)
   refine ⟨(k+1,m / 2 ^ (8:Int).toNat),_,by dsimp only;omega,⟨by dsimp only;omega,?_,?_⟩,.refl,by exact frA⟩
   ·show m / 256 < _
    rw [show 8 - k=(8 - (k+1))+1 by omega,Nat.pow_succ] at hm
    exact Nat.div_lt_of_lt_mul (by rw [Nat.mul_comm];exact hm)
   ·show _=k+1+(beF (8 - (k+1)) (m / 256)).length
    rw [hl,show 8 - k=(8 - (k+1))+1 by omega,beF_step (by omega)];omega
 ·have d1:decide (0 < (m:Int))=false:=decide_eq_false (by omega)
  obtain rfl:m=0:=by omega
  rw [beF_zero,List.length_nil,Nat.add_zero] at hl
  repeat' (first|refine jx5 ?_|refine jy0 ?_ ?_|exact spF|refine spQ fun hq hq'=>?_|refine spN fun hn=>?_|fail)
  refine aws_loopS [6,29,30,31,32,33,34,35,36,37,38,39,40,41,42,43,44,45,46] [1000,901] (fun (s:Nat × Int × List Nat)=>[(6,.p (.i s.2.1))])
   (fun s=>[(1000,(n+1,some (.box 118 [.osl 901 (s.1+1) 1 0 s.2.2.length]))),(901,(s.1+2,some (.buf 5 1 (s.2.2.map bR))))])
   (fun s=>s.1≤k∧s.2.1=(k:Int) - 1 - s.1∧s.2.2=bs++[k % md .u8]++(be x).take s.1) (fun s=>k - s.1) (0,(k:Int) - 1,bs++[k % md .u8]) ⟨Nat.zero_le _,by simp,by simp⟩ (by exact knA) (by exact knA) ?_
  rintro ⟨j,i,L⟩ β γ ⟨hj,hi,hL⟩
  dsimp only at hj hi hL ⊢
  have hll:L.length≤1000000100:=by
   rw [hL,List.length_append,List.length_append,List.length_singleton,List.length_take];omega
  by_cases hjk:j < k
  ·have d2:decide (0≤i)=true:=decide_eq_true (by omega)
   repeat' (first|refine jx5 ?_|refine jy0 ?_ ?_|exact spF|refine spQ fun hq hq'=>?_|refine spN fun hn=>?_|fail)
   refine aws_draws [(11,901),(14,1000)] mixed (by kernel_rfl) ?_
   repeat' (first|refine jx7 ?_|refine jy1 ?_ ?_|exact spF|refine spQ fun hq hq'=>?_|fail)
   as_aux_lemma=>
    repeat' (first|refine jx5 ?_|refine jy0 ?_ ?_|exact spF|refine spQ fun hq hq'=>?_|refine spN fun hn=>?_|fail)
    refine ⟨(j+1,i - 1,L++[x / 2 ^ (8 * i).toNat % md .u8]),_,by dsimp only;omega,⟨by dsimp only;omega,by dsimp only;omega,?_⟩,.refl,by exact frA⟩
    dsimp only
    rw [be_take (by omega),← List.append_assoc,hL,hl,show (8 * i).toNat=8 * (k - 1 - j) by omega,pow8];rfl
  ·have d2:decide (0≤i)=false:=decide_eq_false (by omega)
   obtain rfl:j=k:=by omega
   have e:bs++numB x=L:=by
    rw [hL,List.take_of_length_le (by omega),show j % md .u8=j from Nat.mod_eq_of_lt (by show j < 256;omega),numB,hl,List.append_assoc];rfl
   rw [e]
   refine aws_says (says_pack (p:=1000) (o:=901) (pre:=[]) (post:=[]) rfl rfl rfl (by omega) (by rw [List.length_map]) (by decide)) ?_
   as_aux_lemma=>
    repeat' (first|refine jx5 ?_|refine jy0 ?_ ?_|exact spF|refine spQ fun hq hq'=>?_|refine spN fun hn=>?_|fail)
    exact RetO.mk (res0 rfl rfl) ⟨.abs,trivial⟩
instance {c g n:Nat} {bs:List Nat} {x:Nat}:OC Tryz.prog 60 [.o (.ptr c g 0),.p (.k .u64 (x:Int))] [(c,(n,some (.abs (wrA bs))))] [] (n=g+1∧x < 18446744073709551616∧bs.length≤1000000000) (.tup []) [(c,(n,some (.abs (wrA (bs++numB x)))))]:=⟨fun h=>by obtain ⟨rfl,h1,h2⟩:=h;exact (num_o g bs x h1 h2).one c⟩
end Go.Proofs.YtpgppgehhclfoaaGreat.Wi
