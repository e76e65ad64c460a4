/- carts in plain Lean: entries in order, sets of dots, values: in two ways // carts in plain Lean: which may be, once more; joins // carts in plain Lean: what they are worth -/
import Derived.Test.YtkgploeegbmofaaGreatSEA01
import Derived.Test.YtkgploeegbmofaaGreatSEA08
import Derived.Test.YtkgploeegbmofaaGreatSEA09
import Derived.Test.YtkgploeegbmofaaGreatSEA02
namespace Go.Proofs.YtkgploeegbmofaaGreat.Ca
open Go Go.RowKit Go.Aw Go.Aw.Cart Go.Aw.Ord Go.Sort
set_option linter.unusedVariables false
set_option linter.unusedSimpArgs false
theorem ltE_ir (a:Ent):¬ ltE a a:=by unfold ltE;omega
theorem ltE_tr (a b c:Ent):ltE a b→ltE b c→ltE a c:=by unfold ltE;omega
theorem ltE_as (a b:Ent):ltE a b→¬ ltE b a:=by unfold ltE;omega
theorem ltE_nt (a b c:Ent):¬ ltE a b→¬ ltE b c→¬ ltE a c:=by unfold ltE;omega
theorem ltE_tot (a b:Ent) (h:¬ ltE a b) (k:¬ ltE b a):a=b:=totE a b (by rw [ltE_of];exact decide_eq_false h) (by rw [ltE_of];exact decide_eq_false k)
theorem ltD_ir (a:Dot):¬ ltD a a:=by unfold ltD;omega
theorem ltD_tr (a b c:Dot):ltD a b→ltD b c→ltD a c:=by unfold ltD;omega
theorem ltD_as (a b:Dot):ltD a b→¬ ltD b a:=by unfold ltD;omega
theorem ltD_nt (a b c:Dot):¬ ltD a b→¬ ltD b c→¬ ltD a c:=by unfold ltD;omega
theorem ltD_tot (a b:Dot) (h:¬ ltD a b) (k:¬ ltD b a):a=b:=totD a b (by rw [ltD_of];exact decide_eq_false h) (by rw [ltD_of];exact decide_eq_false k)
theorem sortE_perm (l:List Ent):(sortE l).Perm l:=List.mergeSort_perm ..
theorem sortD_perm (l:List Dot):(sortD l).Perm l:=List.mergeSort_perm ..
theorem sortE_up (l:List Ent):upI ltE (sortE l):=by
 have h:=List.pairwise_mergeSort (le:=fun x y=>!(ltOf ordE) y x) (fun a b c h k=>?_) (fun a b=>?_) l
 ·refine List.Pairwise.imp (fun {a b} h=>?_) h
  simpa [ltE_of] using h
 ·simp only [ltE_of,Bool.not_eq_true',decide_eq_false_iff_not] at h k ⊢
  exact ltE_nt _ _ _ k h
 ·simp only [ltE_of,Bool.or_eq_true,Bool.not_eq_true',decide_eq_false_iff_not]
  by_cases k:ltE b a
  ·exact .inr (ltE_as _ _ k)
  ·exact .inl k
theorem sortD_up (l:List Dot):upI ltD (sortD l):=by
 have h:=List.pairwise_mergeSort (le:=fun x y=>!(ltOf cmpD) y x) (fun a b c h k=>?_) (fun a b=>?_) l
 ·refine List.Pairwise.imp (fun {a b} h=>?_) h
  simpa [ltD_of] using h
 ·simp only [ltD_of,Bool.not_eq_true',decide_eq_false_iff_not] at h k ⊢
  exact ltD_nt _ _ _ k h
 ·simp only [ltD_of,Bool.or_eq_true,Bool.not_eq_true',decide_eq_false_iff_not]
  by_cases k:ltD b a
  ·exact .inr (ltD_as _ _ k)
  ·exact .inl k
theorem sortE_mem {l:List Ent} {e:Ent}:e∈sortE l↔e∈l:=(sortE_perm l).mem_iff
def setF (l:List Dot):List Dot:=comp (sortD (l.filter dotF))
theorem setF_up (l:List Dot):(setF l).Pairwise ltD:=comp_up (fun x y h=>by
 by_cases k:ltD x y
 ·exact .inr k
 ·exact .inl (ltD_tot _ _ k h)) ltD_tr (sortD_up _)
theorem setF_len (l:List Dot):(setF l).length≤l.length:=Nat.le_trans (comp_len _) (by rw [sortD_len];exact List.length_filter_le _ _)
theorem dotsOf_is (l:List Dot):G.dotsOf l=(setF l).take 2000:=rfl
theorem setF_full {l:List Dot} (hd:∀ d∈l,dotF d=true):(setF l).length=l.length↔l.Nodup:=by
 have e:l.filter dotF=l:=List.filter_eq_self.2 hd
 rw [setF,e]
 constructor
 ·intro h
  have h1:=comp_sub.eq_of_length (l₁:=comp (sortD l)) (by rw [h,sortD_len])
  have h2:=setF_up l
  rw [setF,e,h1] at h2
  refine (sortD_perm l).nodup_iff.1 (h2.imp fun {a b} k q=>?_)
  subst q;exact ltD_ir _ k
 ·intro h
  rw [comp_id ((sortD_perm l).nodup_iff.2 h),sortD_len]
/-! which carts may be -/
theorem okTo_iff {v:List Int} {l:List Ent}:∀ (n k:Nat),okTo v l k n=true↔∀ i,k≤i→i < k+n→rowOk v l i=true
 | 0,k=>⟨fun _ i h1 h2=>by omega,fun _=>rfl⟩
 | n+1,k=>by
  rw [okTo,Bool.and_eq_true,okTo_iff n (k+1)]
  refine ⟨fun h i h1 h2=>?_,fun h=>⟨h k (by omega) (by omega),fun i h1 h2=>h i (by omega) (by omega)⟩⟩
  by_cases e:i=k
  ·rw [e];exact h.1
  ·exact h.2 i (by omega) (by omega)
theorem has_dot {v:List Int} {d:Dot} (h:hasF v d=true):dotF d=true:=by
 unfold hasF at h;simp only [Bool.and_eq_true] at h;exact h.1
theorem row_ent {v:List Int} {l:List Ent} {i:Nat} (h:rowOk v l i=true):entF (l.getD i default)=true∧hasF v (dotE (l.getD i default))=true∧(0 < i→ltE (l.getD (i - 1) default) (l.getD i default)):=by
 unfold rowOk at h
 simp only [Bool.and_eq_true,Bool.or_eq_true,decide_eq_true_eq] at h
 exact ⟨h.1.1,h.1.2,fun k=>ordE_lt.1 (h.2.resolve_left (by omega))⟩
theorem getD_mem {α:Type} [Inhabited α] {l:List α} {x:α} (h:x∈l):∃ i,i < l.length∧l.getD i default=x:=by
 obtain ⟨i,hi,e⟩:=List.getElem_of_mem h
 exact ⟨i,hi,by rw [List.getD_eq_getElem?_getD,List.getElem?_eq_getElem hi];exact e⟩
theorem live_set (l:List Ent) (h:l.length≤2000):liveF l=setF (l.map dotE):=by
 rw [liveF,dotsOf_is,List.take_of_length_le]
 exact Nat.le_trans (setF_len _) (by rw [List.length_map];exact h)
theorem rightF_iff {v:List Int} {l:List Ent}:rightF v l=true↔l.length≤400∧(∀ i,i < l.length→rowOk v l i=true)∧(l.map dotE).Nodup:=by
 unfold rightF
 simp only [Bool.and_eq_true,decide_eq_true_eq,okTo_iff]
 refine and_congr_right fun h4=>?_
 constructor
 ·rintro ⟨h1,h2⟩
  have h1':∀ i,i < l.length→rowOk v l i=true:=fun i hi=>h1 i (Nat.zero_le _) (by omega)
  refine ⟨h1',(setF_full fun d hd=>?_).1 (by rw [← live_set l (by omega),h2,List.length_map])⟩
  obtain ⟨e,he,rfl⟩:=List.mem_map.1 hd
  obtain ⟨i,hi,rfl⟩:=getD_mem he
  exact has_dot (row_ent (h1' i hi)).2.1
 ·rintro ⟨h1,h2⟩
  refine ⟨fun i _ hi=>h1 i (by omega),?_⟩
  rw [live_set l (by omega),(setF_full fun d hd=>?_).2 h2,List.length_map]
  obtain ⟨e,he,rfl⟩:=List.mem_map.1 hd
  obtain ⟨i,hi,rfl⟩:=getD_mem he
  exact has_dot (row_ent (h1 i hi)).2.1
/-! values -/
end Go.Proofs.YtkgploeegbmofaaGreat.Ca
namespace Go.Proofs.YtkgploeegbmofaaGreat.Ca
open Go Go.RowKit Go.Aw Go.Aw.Cart Go.Aw.Ord Go.Sort
set_option linter.unusedVariables false
set_option linter.unusedSimpArgs false
theorem getD_at {α:Type} [Inhabited α] {l:List α} {i:Nat} (h:i < l.length):l.getD i default=l[i]:=by
 rw [List.getD_eq_getElem?_getD,List.getElem?_eq_getElem h];rfl
theorem adj_up {l:List Ent} (h:∀ i,0 < i→i < l.length→ltE (l.getD (i - 1) default) (l.getD i default)):l.Pairwise ltE:=by
 have key:∀ j,j < l.length→∀ i,i < j→ltE (l.getD i default) (l.getD j default):=by
  intro j
  induction j with
  | zero=>intro _ i hi;exact absurd hi (Nat.not_lt_zero _)
  | succ j ih=>
   intro hj i hi
   have h1:=h (j+1) (Nat.succ_pos _) hj
   rw [Nat.add_sub_cancel] at h1
   by_cases e:i=j
   ·rw [e];exact h1
   ·exact ltE_tr _ _ _ (ih (by omega) i (by omega)) h1
 refine List.pairwise_iff_getElem.2 fun i j hi hj hij=>?_
 have:=key j hj i hij
 rwa [getD_at hi,getD_at hj] at this
theorem up_adj {l:List Ent} (h:l.Pairwise ltE) {i:Nat} (h0:0 < i) (hi:i < l.length):ltE (l.getD (i - 1) default) (l.getD i default):=by
 have:=List.pairwise_iff_getElem.1 h (i - 1) i (by omega) hi (by omega)
 rwa [getD_at hi,getD_at (show i - 1 < l.length by omega)]
theorem nodup_map {α β:Type} {f:α→β}:∀ {l:List α},l.Nodup→((l.map f).Nodup↔∀ x∈l,∀ y∈l,f x=f y→x=y)
 | [],_=>by simp
 | a::l,h=>by
  obtain ⟨h1,h2⟩:=List.nodup_cons.1 h
  rw [List.map_cons,List.nodup_cons,nodup_map h2]
  constructor
  ·rintro ⟨k1,k2⟩ x hx y hy e
   rcases List.mem_cons.1 hx with q|q<;>rcases List.mem_cons.1 hy with r|r
   ·rw [q,r]
   ·exact absurd (List.mem_map.2 ⟨y,r,by rw [← e,q]⟩) k1
   ·exact absurd (List.mem_map.2 ⟨x,q,by rw [e,r]⟩) k1
   ·exact k2 x q y r e
  ·intro k
   refine ⟨fun q=>?_,fun x hx y hy=>k x (List.mem_cons_of_mem _ hx) y (List.mem_cons_of_mem _ hy)⟩
   obtain ⟨y,hy,e⟩:=List.mem_map.1 q
   rw [k y (List.mem_cons_of_mem _ hy) a List.mem_cons_self e] at hy
   exact h1 hy
theorem up_nodup {l:List Ent} (h:l.Pairwise ltE):l.Nodup:=h.imp fun {a b} k e=>by subst e;exact ltE_ir _ k
structure Ok (v:List Int) (l:List Ent):Prop where
 few:l.length≤400
 up:l.Pairwise ltE
 ent:∀ e∈l,entF e=true
 has:∀ e∈l,hasF v (dotE e)=true
 one:∀ e∈l,∀ f∈l,dotE e=dotE f→e=f
theorem ok_iff {v:List Int} {l:List Ent}:rightF v l=true↔Ok v l:=by
 rw [rightF_iff]
 constructor
 ·rintro ⟨h1,h2,h3⟩
  have hu:l.Pairwise ltE:=adj_up fun i h0 hi=>(row_ent (h2 i hi)).2.2 h0
  refine ⟨h1,hu,fun e he=>?_,fun e he=>?_,(nodup_map (up_nodup hu)).1 h3⟩
  ·obtain ⟨i,hi,rfl⟩:=getD_mem he;exact (row_ent (h2 i hi)).1
  ·obtain ⟨i,hi,rfl⟩:=getD_mem he;exact (row_ent (h2 i hi)).2.1
 ·intro h
  refine ⟨h.few,fun i hi=>?_,(nodup_map (up_nodup h.up)).2 h.one⟩
  have hm:l.getD i default∈l:=by rw [getD_at hi];exact List.getElem_mem _
  unfold rowOk
  simp only [Bool.and_eq_true,Bool.or_eq_true,decide_eq_true_eq]
  refine ⟨⟨h.ent _ hm,h.has _ hm⟩,?_⟩
  by_cases h0:i=0
  ·exact .inl h0
  ·exact .inr (ordE_lt.2 (up_adj h.up (by omega) hi))
theorem Ok.upI {v:List Int} {l:List Ent} (h:Ok v l):upI ltE l:=h.up.imp fun {a b} k=>ltE_as _ _ k
theorem sortE_sup {l:List Ent} (h:l.Nodup):(sortE l).Pairwise ltE:=by
 have h1:(sortE l).Pairwise fun a b=>a≠b:=(sortE_perm l).nodup_iff.2 h
 refine List.Pairwise.imp (fun {a b} (k:¬ ltE b a∧a≠b)=>?_) ((sortE_up l).and h1)
 by_cases q:ltE a b
 ·exact q
 ·exact absurd (ltE_tot _ _ q k.1) k.2
/-! joins -/
abbrev Crt:=List Int × List Ent
def staysF (a b:Crt) (both:Bool):List Ent:=a.2.filter fun e=>(both&&decide (e∈b.2))||!hasF b.1 (dotE e)
def clashF (a b:Crt):Bool:=a.2.any fun e=>b.2.any fun f=>decide (e≠f)&&decide (dotE e=dotE f)
def maxV (a b:List Int):List Int:=List.zipWith (fun x y=>if x < y then y else x) a b
def zeroV:List Int:=[0,0,0,0,0,0,0,0]
def bothF (a b:Crt):List Ent:=staysF a b true++staysF b a false
def twoF (a b:Crt):Crt × Int:=
 if rightF a.1 a.2=false∨rightF b.1 b.2=false then ((zeroV,[]),3) else
 if clashF a b=true then ((zeroV,[]),14) else
 if 400 < (bothF a b).length then ((zeroV,[]),5) else
 ((maxV a.1 b.1,sortE (bothF a b)),0)
theorem both_mem {a b:Crt} {e:Ent}:e∈bothF a b↔(e∈a.2∧(e∈b.2∨hasF b.1 (dotE e)=false))∨(e∈b.2∧hasF a.1 (dotE e)=false):=by
 unfold bothF staysF
 simp [List.mem_append,List.mem_filter]
theorem clash_of {a b:Crt} (h:∀ e∈a.2,∀ f∈b.2,dotE e=dotE f→e=f):clashF a b=false:=by
 unfold clashF
 rw [List.any_eq_false]
 intro e he
 rw [Bool.not_eq_true,List.any_eq_false]
 intro f hf
 simp only [Bool.not_eq_true,Bool.and_eq_false_iff,decide_eq_false_iff_not]
 by_cases k:dotE e=dotE f
 ·exact .inl fun q=>q (h e he f hf k)
 ·exact .inr k
theorem maxV_len {a b:List Int} (ha:a.length=8) (hb:b.length=8):(maxV a b).length=8:=by simp [maxV,ha,hb]
theorem maxV_get {a b:List Int} (ha:a.length=8) (hb:b.length=8) {i:Nat} (hi:i < 8):(maxV a b).getD i default=if a.getD i default < b.getD i default then b.getD i default else a.getD i default:=by
 rw [getD_at (by rw [maxV_len ha hb];exact hi),getD_at (by omega),getD_at (by omega)]
 simp [maxV]
theorem getF_max {a b:List Int} (ha:a.length=8) (hb:b.length=8) (n:Int):getF (maxV a b) n=if getF a n < getF b n then getF b n else getF a n:=by
 unfold getF
 by_cases h:1≤n∧n≤8
 ·rw [if_pos h,if_pos h,if_pos h,maxV_get ha hb (by omega)]
 ·rw [if_neg h,if_neg h,if_neg h];rfl
theorem has_max {a b:List Int} (ha:a.length=8) (hb:b.length=8) (d:Dot):hasF (maxV a b) d=(hasF a d||hasF b d):=by
 unfold hasF
 rw [getF_max ha hb]
 cases dotF d with
 | false=>rfl
 | true=>
  simp only [Bool.true_and]
  rw [Bool.eq_iff_iff,Bool.or_eq_true,decide_eq_true_eq,decide_eq_true_eq,decide_eq_true_eq]
  split<;>omega
structure Two (a b:Crt):Prop where
 la:a.1.length=8
 lb:b.1.length=8
 oa:Ok a.1 a.2
 ob:Ok b.1 b.2
 nc:∀ e∈a.2,∀ f∈b.2,dotE e=dotE f→e=f
 few:(bothF a b).length≤400
theorem bothF_nodup {a b:Crt} (oa:Ok a.1 a.2) (ob:Ok b.1 b.2):(bothF a b).Nodup:=by
 unfold bothF
 refine List.nodup_append.2 ⟨(up_nodup oa.up).sublist List.filter_sublist,(up_nodup ob.up).sublist List.filter_sublist,fun x hx y hy e=>?_⟩
 subst e
 unfold staysF at hx hy
 have h1:=(List.mem_filter.1 hx).1
 have h2:=(List.mem_filter.1 hy).2
 rw [Bool.false_and,Bool.false_or,oa.has x h1] at h2
 exact absurd h2 (by simp)
theorem Two.is {a b:Crt} (h:Two a b):twoF a b=((maxV a.1 b.1,sortE (bothF a b)),0):=by
 unfold twoF
 rw [ok_iff.2 h.oa,ok_iff.2 h.ob,if_neg (by simp),if_neg (by rw [clash_of h.nc];simp),if_neg (by have:=h.few;omega)]
theorem Two.mem {a b:Crt} (h:Two a b) {e:Ent}:e∈(twoF a b).1.2↔(e∈a.2∧(e∈b.2∨hasF b.1 (dotE e)=false))∨(e∈b.2∧hasF a.1 (dotE e)=false):=by
 rw [h.is,sortE_mem,both_mem]
theorem Two.vec {a b:Crt} (h:Two a b):(twoF a b).1.1=maxV a.1 b.1:=by rw [h.is]
theorem Two.len {a b:Crt} (h:Two a b):(twoF a b).1.1.length=8:=by rw [h.vec];exact maxV_len h.la h.lb
theorem Two.sub {a b:Crt} (h:Two a b) {e:Ent} (he:e∈(twoF a b).1.2):e∈a.2∨e∈b.2:=by
 rcases h.mem.1 he with k|k
 ·exact .inl k.1
 ·exact .inr k.1
theorem Two.ok {a b:Crt} (h:Two a b):Ok (twoF a b).1.1 (twoF a b).1.2:=by
 have hs:=@Two.sub a b h
 have hv:=h.vec
 refine ⟨?_,?_,fun e he=>?_,fun e he=>?_,fun e he f hf hd=>?_⟩
 ·rw [h.is];show (sortE _).length≤400;rw [sortE_len];exact h.few
 ·rw [h.is];exact sortE_sup (bothF_nodup h.oa h.ob)
 ·exact (hs he).elim (h.oa.ent e) (h.ob.ent e)
 ·rw [hv,has_max h.la h.lb,Bool.or_eq_true]
  exact (hs he).elim (fun k=>.inl (h.oa.has e k)) (fun k=>.inr (h.ob.has e k))
 ·rcases hs he with k|k<;>rcases hs hf with q|q
  ·exact h.oa.one e k f q hd
  ·exact h.nc e k f q hd
  ·exact (h.nc f q e k hd.symm).symm
  ·exact h.ob.one e k f q hd
end Go.Proofs.YtkgploeegbmofaaGreat.Ca
namespace Go.Proofs.YtkgploeegbmofaaGreat.Ca
open Go Go.RowKit Go.Aw Go.Aw.Cart Go.Aw.Ord Go.Sort
set_option linter.unusedVariables false
set_option linter.unusedSimpArgs false
/-! the items, and their lines -/
/-! each entry counts for one item -/
/-! the order does not matter -/
end Go.Proofs.YtkgploeegbmofaaGreat.Ca
namespace Go.Proofs.YtkgploeegbmofaaGreat.Wi
open Go Go.RowKit Go.Aw Go.Aw.Cart Go.Proofs.YtkgploeegbmofaaGreat.Ca
set_option linter.unusedVariables false
set_option linter.unusedSimpArgs false
structure Par {α:Type} (P:RS→α × RS):Prop where
 bad:∀ r,r.2≠0→(P r).2=r
 ext:∀ l y rest q,P (l,0)=(y,(rest,0))→P (l++q,0)=(y,(rest++q,0))
 suf:∀ r,(P r).2.1 <:+ r.1
theorem Par.len {α:Type} {P:RS→α × RS} (h:Par P) (r:RS):(P r).2.1.length≤r.1.length:=(h.suf r).length_le
def bindS {α β:Type} (P:RS→α × RS) (Q:α→RS→β × RS) (r:RS):β × RS:=Q (P r).1 (P r).2
def pureS {α:Type} (a:α) (r:RS):α × RS:=(a,r)
def mustU (b:Bool) (r:RS):Unit × RS:=((),mustS b r)
def okS {α:Type} (a z:α) (r:RS):α × RS:=(if r.2=0 then a else z,r)
def zig (n:Int):Nat:=if 0≤n then (2 * n).toNat else (2 * (-n - 1)+1).toNat
def unz (m:Nat):Int:=if m % 2=1 then -((m / 2:Nat):Int) - 1 else ((m / 2:Nat):Int)
def zOk (m:Nat):Bool:=if m % 2=0 then decide (m / 2≤4611686018427387904) else decide (m / 2 < 4611686018427387904)
def intB (n:Int):List Nat:=numB (zig n)
def intS:RS→Int × RS:=bindS numS fun m=>bindS (mustU (zOk m)) fun _=>okS (unz m) 0
def textB (b:List Nat):List Nat:=numB b.length++b
def allS {α:Type} (P:RS→α × RS):Nat→RS→List α × RS
 | 0=>pureS []
 | k+1=>bindS (allS P k) fun l=>bindS P fun a=>pureS (l++[a])
def manyS {α:Type} (P:RS→α × RS):Nat→RS→List α × RS
 | 0,r=>([],r)
 | k+1,r=>if (manyS P k r).2.2=0 then ((manyS P k r).1++[(P (manyS P k r).2).1],(P (manyS P k r).2).2) else manyS P k r
/-! back -/
def numI (n:Int):List Nat:=numB n.toNat
def vecB (v:List Int):List Nat:=v.flatMap numI
def entB (e:Ent):List Nat:=numI e.1++(numI e.2.1++(numI e.2.2.1++intB e.2.2.2))
def cartB (c:Crt):List Nat:=vecB c.1++(numB c.2.length++c.2.flatMap entB)
def numZ:RS→Int × RS:=bindS numS fun n=>pureS (n:Int)
def vecS:RS→List Int × RS:=bindS (allS numZ 8) fun v=>okS v zeroV
def entS:RS→Ent × RS:=bindS (smallS 60) fun a=>bindS (smallS 8) fun b=>bindS numZ fun c=>bindS intS fun d=>pureS (a,b,c,d)
def cartS:RS→Crt × RS:=bindS vecS fun v=>bindS (smallS 400) fun n=>bindS (manyS entS n.toNat) fun l=>bindS (mustU (rightF v l)) fun _=>okS (v,l) (zeroV,[])
def vecOk (v:List Int):Prop:=v.length=8∧∀ n∈v,0≤n∧n < 18446744073709551616
def entOk (e:Ent):Prop:=(0≤e.1∧e.1≤60)∧(0≤e.2.1∧e.2.1≤8)∧(0≤e.2.2.1∧e.2.2.1 < 18446744073709551616)∧(-1000≤e.2.2.2∧e.2.2.2≤1000)
theorem get_fit {v:List Int} (h:∀ n∈v,0≤n∧n < 18446744073709551616) (i:Int):getF v i < 18446744073709551616:=by
 unfold getF
 split
 ·rcases Nat.lt_or_ge (i - 1).toNat v.length with hj|hj
  ·have e:v.getD (i - 1).toNat default=v[(i - 1).toNat]:=getD_at hj
   first|(rw [e];exact (h _ (List.getElem_mem _)).2)|omega
  ·rw [List.getD_eq_getElem?_getD,List.getElem?_eq_none hj];decide
 ·decide
theorem ok_ents {c:Crt} (hr:rightF c.1 c.2=true) (hv:vecOk c.1):∀ e∈c.2,entOk e:=by
 intro e he
 have ho:=ok_iff.1 hr
 have h1:=ho.ent e he
 have h2:=ho.has e he
 unfold entF at h1
 unfold hasF dotF at h2
 have h1:=of_decide_eq_true h1
 rw [Bool.and_eq_true,decide_eq_true_eq,decide_eq_true_eq] at h2
 obtain ⟨⟨b1,b2,b3⟩,b4⟩:=h2
 have b1:1≤e.2.1:=b1
 have b2:e.2.1≤8:=b2
 have b3:0 < e.2.2.1:=b3
 have b4:e.2.2.1≤getF c.1 e.2.1:=b4
 have:=get_fit hv.2 e.2.1
 unfold entOk
 omega
/-! lists -/
abbrev Kd:=List Nat × Crt
def bLt:List Nat→List Nat→Bool
 | [],[]=>false
 | [],_::_=>true
 | _::_,[]=>false
 | a::l,b::m=>if a=b then bLt l m else decide (a < b)
def kdB (k:Kd):List Nat:=textB k.1++cartB k.2
def listB (l:List Kd):List Nat:=numB l.length++l.flatMap kdB
def kdOk (l:List Kd) (i:Nat):Bool:=decide ((l.getD i default).1.length≤20)&&((decide (i=0)||bLt (l.getD (i - 1) default).1 (l.getD i default).1)&&rightF (l.getD i default).2.1 (l.getD i default).2.2)
def keysF (l:List Kd):Bool:=decide (l.length≤2000∧∀ i,i < l.length→kdOk l i=true)
end Go.Proofs.YtkgploeegbmofaaGreat.Wi
namespace Go.Aw
open Go Go.RowKit
theorem aws_endS {C:Ctx} {Q:Exit→St→Prop} {σ:St} {c:Code} (h:AWs C [c] (fun e s=>∃ τ,Says C s τ∧Q e τ) σ):AWs C [c] Q σ:=by
 have h1:=aws_one h
 intro a w hr
 refine wpIn_mono (h1 a w hr) ?_
 rintro e a' w' ⟨s,⟨τ,h2,h3⟩,h4⟩
 cases e<;>exact ⟨τ,h3,h2 _ _ h4⟩
theorem lop_icomp {C:Ctx} {o:Oper} {σ:St} {t:TypeId} {x:Operand} {n m:Int} (ho:o.op=.unOp .xor t x) (hx:σ.look x=.p (.v (.int .i64 n))) (hn : -9223372036854775808≤n∧n≤9223372036854775807) (hm : -n - 1=m) (hd:dOk C o.dst=true):LOp C o σ ⟨.p (.v (.int .i64 m)),[]⟩ (fun _=>false):=
 lop_val hd fun τ a' w G hl hm' h=>by
  have e1:=val_of h ((hl x (by simp [ho,Op.operands])).trans hx)
  have e3:(BitVec.ofInt 64 (-1) ^^^ BitVec.ofInt 64 n).toNat=2 ^ 64 - 1 - (BitVec.ofInt 64 n).toNat:=by
   rw [show BitVec.ofInt 64 (-1)=BitVec.allOnes 64 by decide,BitVec.allOnes_xor,BitVec.toNat_not]
  have e4:IntKind.i64.wrap ((2 ^ 64 - 1 - (BitVec.ofInt 64 n).toNat:Nat):Int)=m:=by
   rw [BitVec.toNat_ofInt,IntKind.wrap_i64]
   omega
  have e2:(Op.unary .xor (.int .i64 n)).run C.P w=.ok (.int .i64 m) w:=by
   simp only [Op.unary,show IntKind.i64.signed=true from rfl,if_true]
   show (Op.intBits .xor .i64 (-1) n).run C.P w=_
   show Result.ok (Value.int .i64 (IntKind.i64.wrap ((BitVec.ofInt 64 (-1) ^^^ BitVec.ofInt 64 n).toNat:Int))) w=_
   rw [e3,e4]
  exact ⟨_,by simp only [execOp,ho,e1,Sem.run_bind,e2,Result.andThen_ok];rfl,rfl,rfl⟩
end Go.Aw
namespace Go.Proofs.YtkgploeegbmofaaGreat.Wi
open Go Go.RowKit Go.Aw Go.Aw.Cart Go.Proofs.YtkgploeegbmofaaGreat.Ca
set_option linter.unusedVariables false
set_option linter.unusedSimpArgs false
set_option maxRecDepth 8000
set_option maxHeartbeats 4000000
namespace W5
theorem lopC {C:Ctx} {o:Oper} {σ:St} {e:Eff} {ro:Nat→Bool} (h:LOp C o σ e ro:=by
  first|(apply lop_icomp;(focus rfl);(focus rfl);(focus first|assumption|omega);(focus first|assumption|rfl);(focus rfl))|(apply lop_ixv;(focus rfl);(focus exact inferInstance);(focus exact inferInstance);(focus rfl);(focus rfl);(focus exact inferInstance);(focus omega);(focus omega);(focus omega);(focus rfl);(focus rfl);(focus rfl);(focus rfl))|exact W4.lopC|fail):LOp C o σ e ro:=h
section steps
variable {C:Ctx} {ops:Array Oper} {o:Oper} {rest:List Oper} {K:St→Prop} {σ:St} {e:Eff} {ro:Nat→Bool} {W:List (Nat × Nat)} {i:Nat}
theorem rnC {d:Nat} (hg:Guard ops σ o true:=by first|exact gd_n rfl rfl|exact gd_t rfl rfl rfl rfl|exact gd_t rfl rfl rfl (by assumption)) (hd:o.dst=some d:=by rfl) (h:LOp C o σ e ro:=by exact lopC) (hk:RunN C ops rest K (e.app (some d) σ)):RunN C ops (o::rest) K σ:=rn_any hg hd h hk
end steps
end W5
open W5
theorem numI_nat (m:Nat):numI (m:Int)=numB m:=by unfold numI;rw [Int.toNat_natCast]
theorem numI_len (x:Int):(numI x).length≤9:=by
 unfold numI numB
 rw [List.length_cons]
 have:(be x.toNat).length≤8:=beF_le 8 _
 omega
theorem intB_len (x:Int):(intB x).length≤9:=by
 have:=numI_len ((zig x:Nat):Int)
 rwa [numI_nat] at this
theorem flat_len {α:Type} {f:α→List Nat} {k:Nat}:∀ {l:List α},(∀ a∈l,(f a).length≤k)→(l.flatMap f).length≤k * l.length
 | [],_=>by simp
 | a::l,h=>by
  have h1:=h a List.mem_cons_self
  have h2:=flat_len (f:=f) (k:=k) (l:=l) fun x hx=>h x (List.mem_cons_of_mem _ hx)
  rw [List.flatMap_cons,List.length_append,List.length_cons,Nat.mul_succ];omega
theorem entB_len (e:Ent):(entB e).length≤36:=by
 have:=numI_len e.1;have:=numI_len e.2.1;have:=numI_len e.2.2.1;have:=intB_len e.2.2.2
 unfold entB
 rw [List.length_append,List.length_append,List.length_append];omega
theorem cartB_len {v:List Int} {l:List Ent} (hv:vecOk v) (hr:rightF v l=true):(cartB (v,l)).length≤20000:=by
 have hl:l.length≤400:=(ok_iff.1 hr).few
 have h1:(vecB v).length≤9 * v.length:=flat_len fun a _=>numI_len a
 have h2:(l.flatMap entB).length≤36 * l.length:=flat_len fun a _=>entB_len a
 have h3:=numI_len (l.length:Int)
 rw [numI_nat] at h3
 have h8:=hv.1
 unfold cartB
 rw [List.length_append,List.length_append]
 dsimp only
 omega
instance numI_i {c g n:Nat} {bs:List Nat} {x:Int}:OC Tryz.prog 87 [.o (.ptr c g 0),.p (.k .u64 x)] [(c,(n,some (.abs (wrA bs))))] [] (n=g+1∧(0≤x∧x < 18446744073709551616)∧bs.length≤1000000000) (.tup []) [(c,(n,some (.abs (wrA (bs++numI x)))))]:=⟨fun h=>by
 obtain ⟨rfl,h1,h2⟩:=h
 obtain ⟨m,rfl⟩:∃ m:Nat,x=m:=⟨x.toNat,by omega⟩
 rw [numI_nat]
 exact (num_o g bs m (by omega) h2).one c⟩
theorem or_one (a:Nat):(a * 2||| 1)=a * 2+1:=by
 have:=Nat.shiftLeft_add_eq_or_of_lt (i:=1) (show 1 < 2 ^ 1 by decide) a
 rw [Nat.shiftLeft_eq] at this
 exact this.symm
theorem wint_o (n:Nat) (bs:List Nat) (x:Int) (hx : -9223372036854775808≤x∧x≤9223372036854775807) (h:bs.length≤1000000000):OCall Tryz.prog 163 [.o (.ptr 1000 n 0),.p (.i x)] (memL [(1000,(n+1,some (.abs (wrA bs))))]) (.tup []) (memL [(1000,(n+1,some (.abs (wrA (bs++intB x)))))]):=by
 refine ocall_of1 Tryz.func163 rfl (fun w0 F S0 M0=>?_)
 have hmd:md .u64=18446744073709551616:=rfl
 by_cases h0:0≤x
 ·obtain ⟨q,rfl⟩:∃ q:Nat,x=q:=⟨x.toNat,by omega⟩
  have d1:decide (0≤(q:Int))=true:=decide_eq_true h0
  have e0:q % md .u64 * 2 ^ (1:Int).toNat % md .u64=2 * q:=by
   rw [hmd,show 2 ^ (1:Int).toNat=2 from rfl];omega
  have e:intB (q:Int)=numB (q % md .u64 * 2 ^ (1:Int).toNat % md .u64):=by
   rw [e0];unfold intB zig;rw [if_pos h0];congr 1;try omega
  have b1:q % md .u64 * 2 ^ (1:Int).toNat % md .u64 < 18446744073709551616:=by rw [e0];omega
  rw [e]
  as_aux_lemma=>
   repeat' (first|refine jx5 ?_|refine jy0 ?_ ?_|exact spF|refine spQ fun hq hq'=>?_|refine spN fun hn=>?_|fail)
   exact RetO.mk (res0 rfl rfl) ⟨.abs,trivial⟩
 ·obtain ⟨q,rfl⟩:∃ q:Nat,x = -(q:Int) - 1:=⟨(-x - 1).toNat,by omega⟩
  have d1:decide (0 ≤ -(q:Int) - 1)=false:=decide_eq_false h0
  have hq : -(-(q:Int) - 1) - 1=(q:Int):=by omega
  have e0:(q % md .u64 * 2 ^ (1:Int).toNat % md .u64 % md .u64||| 1 % md .u64)=2 * q+1:=by
   rw [hmd,show 2 ^ (1:Int).toNat=2 from rfl,show q % 18446744073709551616 * 2 % 18446744073709551616 % 18446744073709551616=q * 2 by omega,show 1 % 18446744073709551616=1 from rfl,or_one];omega
  have e:intB (-(q:Int) - 1)=numB (q % md .u64 * 2 ^ (1:Int).toNat % md .u64 % md .u64||| 1 % md .u64):=by
   rw [e0];unfold intB zig;rw [if_neg h0];congr 1;try omega
  have b1:(q % md .u64 * 2 ^ (1:Int).toNat % md .u64 % md .u64||| 1 % md .u64) < 18446744073709551616:=by rw [e0];omega
  rw [e]
  as_aux_lemma=>
   repeat' (first|refine jx5 ?_|refine jy0 ?_ ?_|exact spF|refine spQ fun hq hq'=>?_|refine spN fun hn=>?_|fail)
   exact RetO.mk (res0 rfl rfl) ⟨.abs,trivial⟩
instance wint_i {c g n:Nat} {bs:List Nat} {x:Int}:OC Tryz.prog 163 [.o (.ptr c g 0),.p (.i x)] [(c,(n,some (.abs (wrA bs))))] [] (n=g+1∧(-9223372036854775808≤x∧x≤9223372036854775807)∧bs.length≤1000000000) (.tup []) [(c,(n,some (.abs (wrA (bs++intB x)))))]:=⟨fun h=>by obtain ⟨rfl,h1,h2⟩:=h;exact (wint_o g bs x h1 h2).one c⟩
theorem flat_take {α:Type} [Inhabited α] (f:α→List Nat) {l:List α} {i:Nat} (h:i < l.length):(l.take (i+1)).flatMap f=(l.take i).flatMap f++f (l.getD i default):=by
 rw [List.take_succ_eq_append_getElem h,List.flatMap_append,getD_at h];simp
theorem ren_vV (c:Nat) (v:List Int):AV.ren (rn1 c) (vV v)=vV v:=by
 show AV.a ((v.map _).map _)=_
 rw [List.map_map];rfl
theorem wvec_o (n:Nat) (bs:List Nat) (v:List Int) (hv:v.length=8) (hb:∀ x∈v,0≤x∧x < 18446744073709551616) (h:bs.length≤900000000):OCall Tryz.prog 162 [.o (.ptr 1000 n 0),vV v] (memL [(1000,(n+1,some (.abs (wrA bs))))]) (.tup []) (memL [(1000,(n+1,some (.abs (wrA (bs++vecB v)))))]):=by
 refine ocall_of1 Tryz.func162 rfl (fun w0 F S0 M0=>?_)
 repeat' (first|refine jx5 ?_|refine jy0 ?_ ?_|exact spF|refine spQ fun hq hq'=>?_|refine spN fun hn=>?_|fail)
 refine aws_loopS [5,7,8,9,10,11,12,13] [1000] (fun (x:Nat × List Nat)=>[(7,.p (.i x.1))]) (fun x=>[(1000,(n+1,some (.abs (wrA x.2))))]) (fun x=>x.1≤8∧x.2=bs++(v.take x.1).flatMap numI∧x.2.length≤bs.length+9 * x.1) (fun x=>8 - x.1) (0,bs) ⟨Nat.zero_le _,by simp,by simp⟩ (by exact knA) (by exact knA) ?_
 rintro ⟨i,L⟩ β γ ⟨hi,hL,hl⟩
 dsimp only at hi hL hl ⊢
 by_cases hi8:i < 8
 ·have d1:decide ((i:Int) < 8)=true:=decide_eq_true (by omega)
  have ei:(i:Int).toNat=i:=Int.toNat_natCast i
  have hx:=hb (v.getD (i:Int).toNat default) (by rw [ei,getD_at (by omega)];exact List.getElem_mem _)
  have hs:L++numI (v.getD (i:Int).toNat default)=bs++(v.take (i+1)).flatMap numI:=by rw [ei,flat_take numI (by omega),hL,List.append_assoc]
  have hsl:=numI_len (v.getD (i:Int).toNat default)
  as_aux_lemma=>
   repeat' (first|refine jx5 ?_|refine jy0 ?_ ?_|exact spF|refine spQ fun hq hq'=>?_|refine spN fun hn=>?_|fail)
   exact ⟨(i+1,L++numI (v.getD (i:Int).toNat default)),_,by dsimp only;omega,⟨by dsimp only;omega,hs,by dsimp only;rw [List.length_append];omega⟩,.refl,by exact frA⟩
 ·have d1:decide ((i:Int) < 8)=false:=decide_eq_false (by omega)
  rw [List.take_of_length_le (by omega)] at hL
  rw [show bs++vecB v=L by rw [hL];rfl]
  as_aux_lemma=>
   repeat' (first|refine jx5 ?_|refine jy0 ?_ ?_|exact spF|refine spQ fun hq hq'=>?_|refine spN fun hn=>?_|fail)
   exact RetO.mk (res0 rfl rfl) ⟨.abs,trivial⟩
theorem wtext_o (n:Nat) (bs b:List Nat) (ex:Bool) (hb:b.length≤1000000) (h:bs.length≤900000000):OCall Tryz.prog 129 [.o (.ptr 1000 n 0),.p (.sl 1 (b.map bR) ex)] (memL [(1000,(n+1,some (.abs (wrA bs))))]) (.tup []) (memL [(1000,(n+1,some (.abs (wrA (bs++textB b)))))]):=by
 refine ocall_of1 Tryz.func129 rfl (fun w0 F S0 M0=>?_)
 have hmd:md .u64=18446744073709551616:=rfl
 have e0:b.length % md .u64=b.length:=by rw [hmd];omega
 have b1:b.length % md .u64 < 18446744073709551616:=by rw [e0];omega
 have hsl:=numI_len ((b.length % md .u64:Nat):Int)
 rw [numI_nat] at hsl
 have e:textB b=numB (b.length % md .u64)++b:=by unfold textB;rw [e0]
 rw [e,← List.append_assoc]
 have hl2:(bs++numB (b.length % md .u64)).length≤900000009:=by rw [List.length_append];omega
 refine aws_endS ?_
 repeat' (first|refine jx5 ?_|refine jy0 ?_ ?_|exact spF|refine spQ fun hq hq'=>?_|refine spN fun hn=>?_|fail)
 generalize bs++numB (b.length % md .u64)=L at hl2 ⊢
 refine rn_says (says_unpack' (p:=1000) (o:=901) rfl rfl (List.length_map _) rfl (by decide)) rfl ?_
 as_aux_lemma=>
  repeat' (first|refine jx5 ?_|refine jy0 ?_ ?_|exact spF|refine spQ fun hq hq'=>?_|refine spN fun hn=>?_|fail)
  exact ⟨_,says_pack (p:=1000) (o:=901) (pre:=[]) (post:=[]) rfl rfl rfl rfl (by rw [List.length_map]) (by decide),RetO.mk (res0 rfl rfl) ⟨.abs,trivial⟩⟩
instance wtext_i {c g n:Nat} {bs b:List Nat} {ex:Bool}:OC Tryz.prog 129 [.o (.ptr c g 0),.p (.sl 1 (b.map bR) ex)] [(c,(n,some (.abs (wrA bs))))] [] (n=g+1∧b.length≤1000000∧bs.length≤900000000) (.tup []) [(c,(n,some (.abs (wrA (bs++textB b)))))]:=⟨fun h=>by obtain ⟨rfl,h1,h2⟩:=h;exact (wtext_o g bs b ex h1 h2).one c⟩
end Go.Proofs.YtkgploeegbmofaaGreat.Wi
