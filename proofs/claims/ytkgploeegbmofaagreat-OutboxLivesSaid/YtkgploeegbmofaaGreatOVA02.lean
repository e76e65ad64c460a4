/- Carts in plain Lean: how entries and dots stand to each other. Nothing here speaks of a program. // Carts in plain Lean: runs of equal things, sorted lists, insertion. Nothing here speaks of a program. // Carts in plain Lean: insertion, one by one, comes to the sorted list. Nothing here speaks of a program. -/
import Derived.Test.YtkgploeegbmofaaGreatOVA01
import Derived.Test.YtkgploeegbmofaaGreatOVA52
namespace Go.Aw.Cart
set_option linter.unusedVariables false
set_option linter.unusedSimpArgs false
def cmpI (x y:Int):Int:=if x < y then -1 else if y < x then 1 else 0
def orF:List Int→Int
 | []=>0
 | x::l=>if x≠0 then x else orF l
def orFrom (l:List Int) (k:Nat):Nat→Int
 | 0=>0
 | n+1=>if l.getD k default≠0 then l.getD k default else orFrom l (k+1) n
theorem orFrom_is {l:List Int}:∀ (n k:Nat),k+n=l.length→orFrom l k n=orF (l.drop k)
 | 0,k,h=>by rw [List.drop_eq_nil_of_le (by omega)];rfl
 | n+1,k,h=>by
  have hk:k < l.length:=by omega
  have e:l.drop k=l.getD k default::l.drop (k+1):=by
   rw [List.getD_eq_getElem?_getD,List.getElem?_eq_getElem hk];exact List.drop_eq_getElem_cons hk
  rw [orFrom,e,orF,orFrom_is n (k+1) (by omega)]
theorem cmpI_lt {x y:Int}:cmpI x y < 0↔x < y:=by unfold cmpI;split<;>(try split)<;>omega
theorem cmpI_eq {x y:Int}:cmpI x y=0↔x=y:=by unfold cmpI;split<;>(try split)<;>omega
abbrev Ent:=Int × Int × Int × Int
abbrev Dot:=Int × Int
def ordE (a b:Ent):Int:=orF [cmpI a.1 b.1,cmpI a.2.1 b.2.1,cmpI a.2.2.1 b.2.2.1,cmpI a.2.2.2 b.2.2.2]
def ordD (a b:Dot):Int:=orF [cmpI a.1 b.1,cmpI a.2 b.2]
def ltE (a b:Ent):Prop:=a.1 < b.1∨a.1=b.1∧(a.2.1 < b.2.1∨a.2.1=b.2.1∧(a.2.2.1 < b.2.2.1∨a.2.2.1=b.2.2.1∧a.2.2.2 < b.2.2.2))
def ltD (a b:Dot):Prop:=a.1 < b.1∨a.1=b.1∧a.2 < b.2
theorem orF_cons {x:Int} {l:List Int}:orF (x::l) < 0↔x < 0∨x=0∧orF l < 0:=by
 rw [orF];split<;>omega
theorem ordE_lt {a b:Ent}:ordE a b < 0↔ltE a b:=by
 unfold ordE ltE
 rw [orF_cons,orF_cons,orF_cons,orF_cons,cmpI_lt,cmpI_lt,cmpI_lt,cmpI_lt,cmpI_eq,cmpI_eq,cmpI_eq,cmpI_eq]
 simp only [orF];omega
theorem ordD_lt {a b:Dot}:ordD a b < 0↔ltD a b:=by
 unfold ordD ltD
 rw [orF_cons,orF_cons,cmpI_lt,cmpI_lt,cmpI_eq,cmpI_eq]
 simp only [orF];omega
def cmpD (a b:Dot):Int:=if ordD a b < 0 then -1 else if ordD b a < 0 then 1 else 0
theorem cmpD_lt {a b:Dot}:cmpD a b < 0↔ltD a b:=by
 unfold cmpD;rw [← ordD_lt];split<;>(try split)<;>omega
end Go.Aw.Cart
namespace Go.Aw.Cart
set_option linter.unusedVariables false
set_option linter.unusedSimpArgs false
section comp
variable {α:Type} [DecidableEq α]
def compG (x:α):List α→List α
 | []=>[]
 | y::l=>if y=x then compG x l else y::compG y l
def comp:List α→List α
 | []=>[]
 | x::l=>x::compG x l
theorem compG_snoc (y:α):∀ (l:List α) (x:α),compG x (l++[y])=compG x l++(if y=(x::l).getLast (by simp) then [] else [y])
 | [],x=>by by_cases e:y=x<;>simp [compG,e]
 | z::l,x=>by
  have e:(x::z::l).getLast (by simp)=(z::l).getLast (by simp):=List.getLast_cons _
  simp only [List.cons_append,compG,e]
  by_cases h:z=x
  ·subst h
   rw [if_pos rfl,if_pos rfl,compG_snoc y l z]
  ·rw [if_neg h,if_neg h,compG_snoc y l z,List.cons_append]
theorem comp_snoc (l:List α) (y:α) (h:l≠[]):comp (l++[y])=comp l++(if y=l.getLast h then [] else [y]):=by
 cases l with
 | nil=>exact absurd rfl h
 | cons x l=>simp only [List.cons_append,comp,compG_snoc]
theorem comp_take [Inhabited α] {l:List α} {k:Nat} (h:k < l.length) (h1:1≤k):comp (l.take (k+1))=comp (l.take k)++(if l.getD k default=l.getD (k - 1) default then [] else [l.getD k default]):=by
 rw [List.take_succ_eq_append_getElem h,comp_snoc _ _ (by
  intro e
  have:=congrArg List.length e
  rw [List.length_take,List.length_nil] at this;omega)]
 have e1:l.getD k default=l[k]:=by rw [List.getD_eq_getElem?_getD,List.getElem?_eq_getElem h];rfl
 have e2:∀ hne,(l.take k).getLast hne=l.getD (k - 1) default:=fun hne=>by
  rw [List.getLast_eq_getElem,List.getD_eq_getElem?_getD,List.getElem?_eq_getElem (by omega:k - 1 < l.length),List.getElem_take]
  simp only [List.length_take,Option.getD_some]
  congr 1;omega
 rw [e1,e2]
theorem comp_one (l:List α):comp (l.take 1)=l.take 1:=by
 cases l with
 | nil=>rfl
 | cons x l=>rfl
theorem compG_len (l:List α):∀ x,(compG x l).length≤l.length:=by
 induction l with
 | nil=>intro x;exact Nat.le_refl _
 | cons y l ih=>
  intro x
  rw [compG]
  split
  ·exact Nat.le_succ_of_le (ih x)
  ·exact Nat.succ_le_succ (ih y)
theorem comp_len (l:List α):(comp l).length≤l.length:=by
 cases l with
 | nil=>exact Nat.le_refl _
 | cons x l=>exact Nat.succ_le_succ (compG_len l x)
theorem compG_up {lt:α→α→Prop} (ht:∀ x y,¬ lt y x→x=y∨lt x y):∀ {l:List α} {x:α},(x::l).Pairwise (fun a b=>¬ lt b a)→(∀ a b c,lt a b→lt b c→lt a c)→(x::compG x l).Pairwise lt
 | [],x,_,_=>List.pairwise_singleton _ _
 | y::l,x,h,tr=>by
  rw [compG]
  obtain ⟨h1,h2⟩:=List.pairwise_cons.1 h
  by_cases e:y=x
  ·rw [if_pos e]
   exact compG_up ht (List.pairwise_cons.2 ⟨fun a ha=>h1 a (List.mem_cons_of_mem _ ha),(List.pairwise_cons.1 h2).2⟩) tr
  ·rw [if_neg e]
   have ih:=compG_up ht h2 tr
   have hxy:lt x y:=by
    rcases ht x y (h1 y List.mem_cons_self) with rfl|h
    ·exact absurd rfl e
    ·exact h
   refine List.pairwise_cons.2 ⟨fun a ha=>?_,ih⟩
   rcases List.mem_cons.1 ha with rfl|ha
   ·exact hxy
   ·exact tr _ _ _ hxy ((List.pairwise_cons.1 ih).1 a ha)
theorem comp_up {lt:α→α→Prop} (ht:∀ x y,¬ lt y x→x=y∨lt x y) (tr:∀ a b c,lt a b→lt b c→lt a c) {l:List α} (h:l.Pairwise (fun a b=>¬ lt b a)):(comp l).Pairwise lt:=by
 cases l with
 | nil=>exact List.Pairwise.nil
 | cons x l=>exact compG_up ht h tr
theorem compG_id:∀ {l:List α} {x:α},(x::l).Pairwise (·≠·)→compG x l=l
 | [],x,_=>rfl
 | y::l,x,h=>by
  obtain ⟨h1,h2⟩:=List.pairwise_cons.1 h
  rw [compG,if_neg (fun e=>h1 y List.mem_cons_self e.symm),compG_id h2]
theorem comp_id {l:List α} (h:l.Pairwise (·≠·)):comp l=l:=by
 cases l with
 | nil=>rfl
 | cons x l=>rw [comp,compG_id h]
end comp
end Go.Aw.Cart
namespace Go.Aw.Ord
set_option linter.unusedVariables false
set_option linter.unusedSimpArgs false
section
variable {α:Type} (lt:α→α→Prop) [DecidableRel lt]
abbrev upI (l:List α):Prop:=l.Pairwise fun a b=>¬ lt b a
end
section
variable {α:Type} {lt:α→α→Prop} [DecidableRel lt]
end
open Go.Aw.Cart
theorem compG_sub {α:Type} [DecidableEq α]:∀ {l:List α} {x:α},(compG x l).Sublist l
 | [],x=>List.Sublist.refl _
 | y::l,x=>by
  unfold compG
  split
  ·exact List.Sublist.cons _ (@compG_sub _ _ l x)
  ·exact (@compG_sub _ _ l y).cons_cons _
theorem comp_sub {α:Type} [DecidableEq α] {l:List α}:(comp l).Sublist l:=by
 cases l with
 | nil=>exact List.Sublist.refl _
 | cons x l=>exact compG_sub.cons_cons _
end Go.Aw.Ord
namespace Go.Proofs.YtkgploeegbmofaaGreat.Ca
open Go Go.RowKit Go.Aw Go.Aw.Cart
set_option linter.unusedVariables false
set_option linter.unusedSimpArgs false
set_option maxRecDepth 8000
set_option maxHeartbeats 4000000
abbrev ints (l:List Int) (ex:Bool):AV:=.p (.sl 1 (l.map fun n=>[PVal.i n]) ex)
abbrev eL (e:Ent):List AC:=[.p (.i e.1),.p (.i e.2.1),.p (.k .u64 e.2.2.1),.p (.i e.2.2.2)]
abbrev eR (e:Ent):List PVal:=[.i e.1,.i e.2.1,.k .u64 e.2.2.1,.i e.2.2.2]
abbrev eV (e:Ent):AV:=.a (eL e)
abbrev dL (d:Dot):List AC:=[.p (.i d.1),.p (.k .u64 d.2)]
abbrev dR (d:Dot):List PVal:=[.i d.1,.k .u64 d.2]
abbrev dV (d:Dot):AV:=.a (dL d)
theorem isNaN_i (x:Int):PCall Tryz.prog 169 [.p (.i x)] (.p (.b false)):=by
 refine pcall_of Tryz.func169 rfl (fun w0 F S0 M0=>?_)
 repeat' (first|refine jx0 ?_|refine jy0 ?_ ?_|exact spF|refine spQ fun hq hq'=>?_|refine spN fun hn=>?_|fail)
 all_goals exact rt1 rfl rfl finS_p (rb (decide_eq_false (p:=x≠x) fun q=>q rfl).symm)
instance {x:Int}:PC Tryz.prog 169 [.p (.i x)] True (.p (.b false)):=⟨fun _=>isNaN_i x⟩
theorem isNaN_u (x:Int):PCall Tryz.prog 170 [.p (.k .u64 x)] (.p (.b false)):=by
 refine pcall_of Tryz.func170 rfl (fun w0 F S0 M0=>?_)
 repeat' (first|refine jx0 ?_|refine jy0 ?_ ?_|exact spF|refine spQ fun hq hq'=>?_|refine spN fun hn=>?_|fail)
 all_goals exact rt1 rfl rfl finS_p (rb (decide_eq_false (p:=x≠x) fun q=>q rfl).symm)
instance {x:Int}:PC Tryz.prog 170 [.p (.k .u64 x)] True (.p (.b false)):=⟨fun _=>isNaN_u x⟩
theorem compare_i (x y:Int):PCall Tryz.prog 146 [.p (.i x),.p (.i y)] (.p (.i (cmpI x y))):=by
 refine pcall_of Tryz.func146 rfl (fun w0 F S0 M0=>?_)
 unfold cmpI
 by_cases h1:x < y
 ·have d1:decide (x < y)=true:=decide_eq_true h1
  rw [if_pos h1]
  repeat' (first|refine jx0 ?_|refine jy0 ?_ ?_|exact spF|refine spQ fun hq hq'=>?_|refine spN fun hn=>?_|fail)
  exact rt1 rfl rfl finS_p rfl
 ·have d1:decide (x < y)=false:=decide_eq_false h1
  rw [if_neg h1]
  by_cases h2:y < x
  ·have d2:decide (y < x)=true:=decide_eq_true h2
   rw [if_pos h2]
   repeat' (first|refine jx0 ?_|refine jy0 ?_ ?_|exact spF|refine spQ fun hq hq'=>?_|refine spN fun hn=>?_|fail)
   exact rt1 rfl rfl finS_p rfl
  ·have d2:decide (y < x)=false:=decide_eq_false h2
   rw [if_neg h2]
   repeat' (first|refine jx0 ?_|refine jy0 ?_ ?_|exact spF|refine spQ fun hq hq'=>?_|refine spN fun hn=>?_|fail)
   exact rt1 rfl rfl finS_p rfl
instance {x y:Int}:PC Tryz.prog 146 [.p (.i x),.p (.i y)] True (.p (.i (cmpI x y))):=⟨fun _=>compare_i x y⟩
theorem compare_u (x y:Int):PCall Tryz.prog 147 [.p (.k .u64 x),.p (.k .u64 y)] (.p (.i (cmpI x y))):=by
 refine pcall_of Tryz.func147 rfl (fun w0 F S0 M0=>?_)
 unfold cmpI
 by_cases h1:x < y
 ·have d1:decide (x < y)=true:=decide_eq_true h1
  rw [if_pos h1]
  repeat' (first|refine jx0 ?_|refine jy0 ?_ ?_|exact spF|refine spQ fun hq hq'=>?_|refine spN fun hn=>?_|fail)
  exact rt1 rfl rfl finS_p rfl
 ·have d1:decide (x < y)=false:=decide_eq_false h1
  rw [if_neg h1]
  by_cases h2:y < x
  ·have d2:decide (y < x)=true:=decide_eq_true h2
   rw [if_pos h2]
   repeat' (first|refine jx0 ?_|refine jy0 ?_ ?_|exact spF|refine spQ fun hq hq'=>?_|refine spN fun hn=>?_|fail)
   exact rt1 rfl rfl finS_p rfl
  ·have d2:decide (y < x)=false:=decide_eq_false h2
   rw [if_neg h2]
   repeat' (first|refine jx0 ?_|refine jy0 ?_ ?_|exact spF|refine spQ fun hq hq'=>?_|refine spN fun hn=>?_|fail)
   exact rt1 rfl rfl finS_p rfl
instance {x y:Int}:PC Tryz.prog 147 [.p (.k .u64 x),.p (.k .u64 y)] True (.p (.i (cmpI x y))):=⟨fun _=>compare_u x y⟩
theorem or_i (l:List Int) (ex:Bool) (h:l.length≤1000):PCall Tryz.prog 145 [ints l ex] (.p (.i (orF l))):=by
 refine pcall_of Tryz.func145 rfl (fun w0 F S0 M0=>?_)
 have e0:orF l=orFrom l 0 l.length:=by rw [orFrom_is l.length 0 (by omega),List.drop_zero]
 rw [e0]
 obtain ⟨A,hA⟩:∃ A,A=orFrom l 0 l.length:=⟨_,rfl⟩
 rw [← hA]
 repeat' (first|refine jx0 ?_|refine jy0 ?_ ?_|exact spF|refine spQ fun hq hq'=>?_|refine spN fun hn=>?_|fail)
 refine aws_loopS [2,5,8,9,10,11,12,13,14,15,16] [] (fun (i:Nat)=>[(8,.p (.i i))]) (fun _=>[]) (fun i=>i≤l.length∧A=orFrom l i (l.length - i)) (fun i=>l.length - i) 0 ⟨Nat.zero_le _,hA⟩ (by exact knA) (by exact knA) ?_
 rintro i β γ ⟨hi,hx⟩
 by_cases hil:i < l.length
 ·have hlt:decide ((i:Int) < l.length)=true:=decide_eq_true (by omega)
  rw [show l.length - i=(l.length - (i+1))+1 by omega,orFrom] at hx
  by_cases hv:l.getD (i:Int).toNat default≠0
  ·have hd:decide (l.getD (i:Int).toNat default≠0)=true:=decide_eq_true hv
   rw [Int.toNat_natCast] at hv
   rw [if_pos hv] at hx
   rw [hx]
   repeat' (first|refine jx0 ?_|refine jy0 ?_ ?_|exact spF|refine spQ fun hq hq'=>?_|refine spN fun hn=>?_|fail)
   exact rt1 rfl rfl finS_p rfl
  ·have hd:decide (l.getD (i:Int).toNat default≠0)=false:=decide_eq_false hv
   rw [Int.toNat_natCast] at hv
   rw [if_neg hv] at hx
   repeat' (first|refine jx0 ?_|refine jy0 ?_ ?_|exact spF|refine spQ fun hq hq'=>?_|refine spN fun hn=>?_|fail)
   exact ⟨i+1,_,by omega,⟨by omega,hx⟩,.refl,by exact frA⟩
 ·have hlt:decide ((i:Int) < l.length)=false:=decide_eq_false (by omega)
  rw [show l.length - i=0 by omega,orFrom] at hx
  rw [hx]
  repeat' (first|refine jx0 ?_|refine jy0 ?_ ?_|exact spF|refine spQ fun hq hq'=>?_|refine spN fun hn=>?_|fail)
  exact rt1 rfl rfl finS_p rfl
instance {l:List Int} {ex:Bool}:PC Tryz.prog 145 [ints l ex] (l.length≤1000) (.p (.i (orF l))):=⟨or_i l ex⟩
instance or4 {a b c d:Int} {ex:Bool}:PC Tryz.prog 145 [.p (.sl 1 [[.i a],[.i b],[.i c],[.i d]] ex)] True (.p (.i (orF [a,b,c,d]))):=⟨fun _=>or_i [a,b,c,d] ex (by simp)⟩
instance (priority:=high) or2m {a b:Int} {ex:Bool}:PC Tryz.prog 145 [ints [a,b] ex] True (.p (.i (orF [a,b]))):=⟨fun _=>or_i [a,b] ex (by simp)⟩
theorem ordE_w (a b:Ent):PCall Tryz.prog 106 [eV a,eV b] (.p (.i (ordE a b))):=by
 refine pcall_of Tryz.func106 rfl (fun w0 F S0 M0=>?_)
 repeat' (first|refine jx0 ?_|refine jy0 ?_ ?_|exact spF|refine spQ fun hq hq'=>?_|refine spN fun hn=>?_|fail)
 exact rt1 rfl rfl finS_p rfl
instance {a b:Ent}:PC Tryz.prog 106 [eV a,eV b] True (.p (.i (ordE a b))):=⟨fun _=>ordE_w a b⟩
theorem less_w (a b:Dot):PCall Tryz.prog 199 [dV a,dV b] (.p (.b (decide (ordD a b < 0)))):=by
 refine pcall_of Tryz.func199 rfl (fun w0 F S0 M0=>?_)
 repeat' (first|refine jx0 ?_|refine jy0 ?_ ?_|exact spF|refine spQ fun hq hq'=>?_|refine spN fun hn=>?_|fail)
 exact rt1 rfl rfl finS_p rfl
instance {a b:Dot}:PC Tryz.prog 199 [dV a,dV b] True (.p (.b (decide (ordD a b < 0)))):=⟨fun _=>less_w a b⟩
theorem cmpD_w (a b:Dot):PCall Tryz.prog 187 [dV a,dV b] (.p (.i (cmpD a b))):=by
 refine pcall_of Tryz.func187 rfl (fun w0 F S0 M0=>?_)
 unfold cmpD
 by_cases h1:ordD a b < 0
 ·have d1:decide (ordD a b < 0)=true:=decide_eq_true h1
  rw [if_pos h1]
  repeat' (first|refine jx0 ?_|refine jy0 ?_ ?_|exact spF|refine spQ fun hq hq'=>?_|refine spN fun hn=>?_|fail)
  exact rt1 rfl rfl finS_p rfl
 ·have d1:decide (ordD a b < 0)=false:=decide_eq_false h1
  rw [if_neg h1]
  by_cases h2:ordD b a < 0
  ·have d2:decide (ordD b a < 0)=true:=decide_eq_true h2
   rw [if_pos h2]
   repeat' (first|refine jx0 ?_|refine jy0 ?_ ?_|exact spF|refine spQ fun hq hq'=>?_|refine spN fun hn=>?_|fail)
   exact rt1 rfl rfl finS_p rfl
  ·have d2:decide (ordD b a < 0)=false:=decide_eq_false h2
   rw [if_neg h2]
   repeat' (first|refine jx0 ?_|refine jy0 ?_ ?_|exact spF|refine spQ fun hq hq'=>?_|refine spN fun hn=>?_|fail)
   exact rt1 rfl rfl finS_p rfl
instance {a b:Dot}:PC Tryz.prog 187 [dV a,dV b] True (.p (.i (cmpD a b))):=⟨fun _=>cmpD_w a b⟩
end Go.Proofs.YtkgploeegbmofaaGreat.Ca
namespace Go.Aw.Sha
set_option linter.unusedVariables false
set_option linter.unusedSimpArgs false
abbrev M:Nat:=4294967296
def x32 (a b:Nat):Nat:=(a % M) ^^^ (b % M)
def a32 (a b:Nat):Nat:=a % M&&& b % M
def o32 (a b:Nat):Nat:=a % M||| b % M
def n32 (a:Nat):Nat:=(M - 1) ^^^ (a % M)
def rotr (x n:Nat):Nat:=x / 2 ^ n||| (x * 2 ^ (32 - n)) % M
structure V8 where
 a:Nat
 b:Nat
 c:Nat
 d:Nat
 e:Nat
 f:Nat
 g:Nat
 h:Nat
def V8.ok (v:V8):Prop:=v.a < M∧v.b < M∧v.c < M∧v.d < M∧v.e < M∧v.f < M∧v.g < M∧v.h < M
def V8.list (v:V8):List Nat:=[v.a,v.b,v.c,v.d,v.e,v.f,v.g,v.h]
def firstV:V8:=⟨1779033703,3144134277,1013904242,2773480762,1359893119,2600822924,528734635,1541459225⟩
def consts:List Nat:=[1116352408,1899447441,3049323471,3921009573,961987163,1508970993,2453635748,2870763221,3624381080,310598401,607225278,1426881987,1925078388,2162078206,2614888103,3248222580,3835390401,4022224774,264347078,604807628,770255983,1249150122,1555081692,1996064986,2554220882,2821834349,2952996808,3210313671,3336571891,3584528711,113926993,338241895,666307205,773529912,1294757372,1396182291,1695183700,1986661051,2177026350,2456956037,2730485921,2820302411,3259730800,3345764771,3516065817,3600352804,4094571909,275423344,430227734,506948616,659060556,883997877,958139571,1322822218,1537002063,1747873779,1955562222,2024104815,2227730452,2361852424,2428436474,2756734187,3204031479,3329325298]
def stepX (v:V8) (k w:Nat):Nat:=(((v.h+x32 (x32 (rotr v.e 6) (rotr v.e 11)) (rotr v.e 25)) % M+x32 (a32 v.e v.f) (a32 (n32 v.e) v.g)) % M+k) % M
def stepY (v:V8):Nat:=(x32 (x32 (rotr v.a 2) (rotr v.a 13)) (rotr v.a 22)+x32 (x32 (a32 v.a v.b) (a32 v.a v.c)) (a32 v.b v.c)) % M
def step (v:V8) (k w:Nat):V8:=⟨((stepX v k w+w) % M+stepY v) % M,v.a,v.b,v.c,(v.d+(stepX v k w+w) % M) % M,v.e,v.f,v.g⟩
def steps (w:List Nat):Nat→V8→V8
 | 0,v=>v
 | t+1,v=>step (steps w t v) (consts.getD t default) (w.getD t default)
def addV (s v:V8):V8:=⟨(s.a+v.a) % M,(s.b+v.b) % M,(s.c+v.c) % M,(s.d+v.d) % M,(s.e+v.e) % M,(s.f+v.f) % M,(s.g+v.g) % M,(s.h+v.h) % M⟩
def word4 (b:List Nat) (t:Nat):Nat:=o32 (o32 (o32 (((b.drop (4 * t)).getD 0 default % M * 2 ^ 24) % M) (((b.drop (4 * t)).getD 1 default % M * 2 ^ 16) % M)) (((b.drop (4 * t)).getD 2 default % M * 2 ^ 8) % M)) ((b.drop (4 * t)).getD 3 default % M)
def wordN (w:List Nat) (t:Nat):Nat:=(((w.getD (t - 16) default+x32 (x32 (rotr (w.getD (t - 15) default) 7) (rotr (w.getD (t - 15) default) 18)) (w.getD (t - 15) default / 2 ^ 3)) % M+w.getD (t - 7) default) % M
 + x32 (x32 (rotr (w.getD (t - 2) default) 17) (rotr (w.getD (t - 2) default) 19)) (w.getD (t - 2) default / 2 ^ 10)) % M
def spreadTo (b:List Nat):Nat→List Nat
 | 0=>List.replicate 64 0
 | t+1=>(spreadTo b t).set t (if t < 16 then word4 b t else wordN (spreadTo b t) t)
def block (s:V8) (b:List Nat):V8:=addV s (steps (spreadTo b 64) 64 s)
def digest (s:V8):List Nat:=(List.range 32).map fun i=>(s.list.getD (i / 4) default / 2 ^ (24 - 8 * (i % 4))) % 256
def digTo (s:V8):Nat→List Nat
 | 0=>List.replicate 32 0
 | m+1=>(digTo s m).set m ((s.list.getD (m / 4) default / 2 ^ (24 - 8 * (m % 4))) % 256)
theorem digTo_len (s:V8):∀ m,(digTo s m).length=32
 | 0=>by simp [digTo]
 | m+1=>by simp [digTo,digTo_len s m]
theorem digTo_get (s:V8):∀ m i (h:i < (digTo s m).length),(digTo s m)[i]=if i < m then (s.list.getD (i / 4) default / 2 ^ (24 - 8 * (i % 4))) % 256 else 0
 | 0,i,h=>by rw [if_neg (Nat.not_lt_zero _)];exact List.getElem_replicate (n:=32) (a:=0) _
 | m+1,i,h=>by
  simp only [digTo,List.getElem_set]
  by_cases e:m=i
  ·subst e;simp
  ·rw [if_neg e,digTo_get s m i (by simpa [digTo] using h)]
   by_cases h1:i < m
   ·rw [if_pos h1,if_pos (by omega)]
   ·rw [if_neg h1,if_neg (by omega)]
theorem digTo_all (s:V8):digTo s 32=digest s:=by
 apply List.ext_getElem
 ·rw [digTo_len];simp [digest]
 ·intro i h1 h2
  rw [digTo_get,if_pos (by rw [digTo_len] at h1;exact h1)]
  simp [digest]
def addTo (s v:V8):Nat→List Nat
 | 0=>s.list
 | i+1=>(addTo s v i).set i (((addTo s v i).getD i default+v.list.getD i default) % M)
theorem addTo_len (s v:V8):∀ i,(addTo s v i).length=8
 | 0=>rfl
 | i+1=>by simp [addTo,addTo_len s v i]
theorem addTo_all (s v:V8):addTo s v 8=(addV s v).list:=rfl
def zeros (n:Nat):Nat:=(119 - n % 64) % 64
def lenBytes (n:Nat):List Nat:=(List.range 8).map fun i=>((n * 8) % 18446744073709551616 / 2 ^ (8 * (7 - i))) % 256
def pad (b:List Nat):List Nat:=b++[128]++List.replicate (zeros b.length) 0++lenBytes b.length
def blocks (p:List Nat):Nat→V8
 | 0=>firstV
 | j+1=>block (blocks p j) ((p.drop (64 * j)).take 64)
def sum (b:List Nat):List Nat:=digest (blocks (pad b) ((pad b).length / 64))
theorem spreadTo_len (b:List Nat):∀ t,(spreadTo b t).length=64
 | 0=>by simp [spreadTo]
 | t+1=>by simp [spreadTo,spreadTo_len b t]
theorem digest_len (s:V8):(digest s).length=32:=by simp [digest]
theorem sum_len (b:List Nat):(sum b).length=32:=digest_len _
theorem lenBytes_len (n:Nat):(lenBytes n).length=8:=by simp [lenBytes]
theorem pad_len (b:List Nat):(pad b).length=b.length+1+zeros b.length+8:=by simp [pad,lenBytes_len];omega
theorem pad_64 (b:List Nat):(pad b).length % 64=0:=by rw [pad_len];unfold zeros;omega
theorem consts_len:consts.length=64:=rfl
theorem rotr_lt {x n:Nat} (hx:x < M) (hn:n≤32):rotr x n < M:=by
 unfold rotr
 exact Nat.or_lt_two_pow (n:=32) (Nat.lt_of_le_of_lt (Nat.div_le_self _ _) hx) (Nat.mod_lt _ (by decide))
theorem x32_lt (a b:Nat):x32 a b < M:=Nat.xor_lt_two_pow (n:=32) (Nat.mod_lt _ (by decide)) (Nat.mod_lt _ (by decide))
theorem a32_lt (a b:Nat):a32 a b < M:=Nat.and_lt_two_pow (n:=32) _ (Nat.mod_lt _ (by decide))
theorem o32_lt (a b:Nat):o32 a b < M:=Nat.or_lt_two_pow (n:=32) (Nat.mod_lt _ (by decide)) (Nat.mod_lt _ (by decide))
theorem step_ok {v:V8} (h:v.ok) (k w:Nat):(step v k w).ok:=by
 obtain ⟨h1,h2,h3,h4,h5,h6,h7,h8⟩:=h
 exact ⟨Nat.mod_lt _ (by decide),h1,h2,h3,Nat.mod_lt _ (by decide),h5,h6,h7⟩
theorem firstV_ok:firstV.ok:=by unfold V8.ok firstV;decide
theorem steps_ok {v:V8} (h:v.ok) (w:List Nat):∀ t,(steps w t v).ok
 | 0=>h
 | t+1=>step_ok (steps_ok h w t) _ _
theorem addV_ok (s v:V8):(addV s v).ok:=⟨Nat.mod_lt _ (by decide),Nat.mod_lt _ (by decide),Nat.mod_lt _ (by decide),Nat.mod_lt _ (by decide),Nat.mod_lt _ (by decide),Nat.mod_lt _ (by decide),Nat.mod_lt _ (by decide),Nat.mod_lt _ (by decide)⟩
theorem blocks_ok (p:List Nat):∀ j,(blocks p j).ok
 | 0=>firstV_ok
 | j+1=>addV_ok _ _
theorem spreadTo_lt (b:List Nat):∀ t i,(spreadTo b t).getD i default < M
 | 0,i=>by
  simp only [spreadTo,List.getD_eq_getElem?_getD,List.getElem?_replicate]
  split<;>(show _ < 4294967296)<;>decide
 | t+1,i=>by
  have ih:=spreadTo_lt b t
  simp only [spreadTo,List.getD_eq_getElem?_getD,List.getElem?_set]
  split
  ·split
   ·rename_i h1 h2
    simp only [Option.getD_some]
    split
    ·exact o32_lt _ _
    ·exact Nat.mod_lt _ (by decide)
   ·show (0:Nat) < 4294967296;decide
  ·have:=ih i;rwa [List.getD_eq_getElem?_getD] at this
end Go.Aw.Sha
namespace Go.Aw.Sha
open Go.Aw
set_option linter.unusedVariables false
set_option linter.unusedSimpArgs false
theorem u64_small {x:Nat} (h:x < M):x % md .u64=x:=Nat.mod_eq_of_lt (Nat.lt_of_lt_of_le h (by decide))
theorem u64_ok {x:Nat} (h:x < 18446744073709551616):x % md .u64=x:=Nat.mod_eq_of_lt h
theorem turn_eq {x k:Nat} (hx:x < M) (hk:1≤k∧k≤32):(x / 2 ^ k) % md .u64||| (((x * 2 ^ (32 - k)) % md .u64) % 4294967296) % md .u64=rotr x k:=by
 have h1:x / 2 ^ k < M:=Nat.lt_of_le_of_lt (Nat.div_le_self _ _) hx
 have h2:2 ^ (32 - k)≤2 ^ 32:=Nat.pow_le_pow_right (by decide) (by omega)
 have h3:x * 2 ^ (32 - k) < 18446744073709551616:=Nat.lt_of_le_of_lt (Nat.mul_le_mul_left x h2) (by simp only [M] at hx;omega)
 rw [u64_small h1,u64_ok h3,u64_small (Nat.mod_lt _ (by decide))]
 rfl
theorem or_disjoint {a b i:Nat} (hb:b < 2 ^ i):2 ^ i * a||| b=2 ^ i * a+b:=(Nat.two_pow_add_eq_or_of_lt hb a).symm
theorem word4_eq {b:List Nat} {t:Nat} {b0 b1 b2 b3:Nat} (h0:(b.drop (4 * t)).getD 0 default=b0) (h1:(b.drop (4 * t)).getD 1 default=b1) (h2:(b.drop (4 * t)).getD 2 default=b2) (h3:(b.drop (4 * t)).getD 3 default=b3)
  (k0:b0 < 256) (k1:b1 < 256) (k2:b2 < 256) (k3:b3 < 256):word4 b t=16777216 * b0+65536 * b1+256 * b2+b3:=by
 unfold word4 o32
 rw [h0,h1,h2,h3]
 have e0:b0 % M * 2 ^ 24 % M=16777216 * b0:=by rw [Nat.mod_eq_of_lt (a:=b0) (by show _ < 4294967296;omega),Nat.mod_eq_of_lt (by show _ < 4294967296;simp only [Nat.reducePow];omega)];simp only [Nat.reducePow];omega
 have e1:b1 % M * 2 ^ 16 % M=65536 * b1:=by rw [Nat.mod_eq_of_lt (a:=b1) (by show _ < 4294967296;omega),Nat.mod_eq_of_lt (by show _ < 4294967296;simp only [Nat.reducePow];omega)];simp only [Nat.reducePow];omega
 have e2:b2 % M * 2 ^ 8 % M=256 * b2:=by rw [Nat.mod_eq_of_lt (a:=b2) (by show _ < 4294967296;omega),Nat.mod_eq_of_lt (by show _ < 4294967296;simp only [Nat.reducePow];omega)];simp only [Nat.reducePow];omega
 have e3:b3 % M % M=b3:=by show b3 % 4294967296 % 4294967296=_;omega
 have m0:16777216 * b0 % M=16777216 * b0:=by show _ % 4294967296=_;omega
 have m1:65536 * b1 % M=65536 * b1:=by show _ % 4294967296=_;omega
 have m2:256 * b2 % M=256 * b2:=by show _ % 4294967296=_;omega
 have o1:16777216 * b0||| 65536 * b1=16777216 * b0+65536 * b1:=or_disjoint (i:=24) (a:=b0) (b:=65536 * b1) (by show _ < 16777216;omega)
 have m3:(16777216 * b0+65536 * b1) % M=65536 * (256 * b0+b1):=by show _ % 4294967296=_;omega
 have o2:65536 * (256 * b0+b1)||| 256 * b2=65536 * (256 * b0+b1)+256 * b2:=or_disjoint (i:=16) (a:=256 * b0+b1) (b:=256 * b2) (by show _ < 65536;omega)
 have m4:(65536 * (256 * b0+b1)+256 * b2) % M=256 * (65536 * b0+256 * b1+b2):=by show _ % 4294967296=_;omega
 have o3:256 * (65536 * b0+256 * b1+b2)||| b3=256 * (65536 * b0+256 * b1+b2)+b3:=or_disjoint (i:=8) (a:=65536 * b0+256 * b1+b2) (b:=b3) k3
 rw [e0,e1,e2,m0,m1,m2,o1,m3,o2,m4]
 rw [e3,o3]
 omega
theorem x32_eq {a b:Nat} (ha:a < M) (hb:b < M):a % md .u64 ^^^ b % md .u64=x32 a b:=by
 unfold x32;rw [u64_small ha,u64_small hb,Nat.mod_eq_of_lt ha,Nat.mod_eq_of_lt hb]
theorem a32_eq {a b:Nat} (ha:a < M) (hb:b < M):a % md .u64&&& b % md .u64=a32 a b:=by
 unfold a32;rw [u64_small ha,u64_small hb,Nat.mod_eq_of_lt ha,Nat.mod_eq_of_lt hb]
theorem n32_eq {a:Nat} (ha:a < M):(4294967295+(md .u64 - a % md .u64)) % md .u64=n32 a:=by
 have h1:a % md .u64=a:=u64_small ha
 have h2:n32 a=4294967295 - a:=by
  unfold n32
  rw [Nat.mod_eq_of_lt ha]
  have key:∀ a:Nat,a < 2 ^ 32→(2 ^ 32 - 1) ^^^ a=2 ^ 32 - 1 - a:=fun a ha=>by
   apply Nat.eq_of_testBit_eq
   intro i
   rw [Nat.testBit_xor,Nat.testBit_two_pow_sub_one,show 2 ^ 32 - 1 - a=2 ^ 32 - (a+1) by omega,Nat.testBit_two_pow_sub_succ ha]
   by_cases hi:i < 32
   ·simp [hi]
   ·simp [hi];exact Nat.testBit_lt_two_pow (Nat.lt_of_lt_of_le ha (Nat.pow_le_pow_right (by decide) (by omega)))
  exact key a ha
 rw [h1,h2]
 simp only [M] at ha
 simp only [md];omega
theorem sig_eq {x i j d:Nat} (hx:x < M) (hi:i≤32) (hj:j≤32):(rotr x i % md .u64 ^^^ rotr x j % md .u64) % md .u64 ^^^ x / d % md .u64 % md .u64=x32 (x32 (rotr x i) (rotr x j)) (x / d):=by
 have hd:x / d < M:=Nat.lt_of_le_of_lt (Nat.div_le_self _ _) hx
 rw [x32_eq (rotr_lt hx hi) (rotr_lt hx hj),u64_small hd,x32_eq (x32_lt _ _) hd]
theorem wordN_eq {x y p q:Nat} (hx:x < M) (hy:y < M) (hp:p < M) (hq:q < M) :
  (((p+x32 (x32 (rotr x 7) (rotr x 18)) (x / 2 ^ 3)) % M+q) % M+x32 (x32 (rotr y 17) (rotr y 19)) (y / 2 ^ 10)) % M =
  (((p+((rotr x (Int.toNat 7) % md .u64 ^^^ rotr x (Int.toNat 18) % md .u64) % md .u64 ^^^ x / 8 % md .u64 % md .u64)) % md .u64+q) % md .u64 +
   ((rotr y (Int.toNat 17) % md .u64 ^^^ rotr y (Int.toNat 19) % md .u64) % md .u64 ^^^ y / 1024 % md .u64 % md .u64)) % md .u64 % 4294967296:=by
 have e7:Int.toNat 7=7:=rfl
 have e18:Int.toNat 18=18:=rfl
 have e17:Int.toNat 17=17:=rfl
 have e19:Int.toNat 19=19:=rfl
 rw [e7,e18,e17,e19,sig_eq hx (by decide) (by decide),sig_eq hy (by decide) (by decide)]
 have hs:=x32_lt (x32 (rotr x 7) (rotr x 18)) (x / 8)
 have hr:=x32_lt (x32 (rotr y 17) (rotr y 19)) (y / 1024)
 have d3:x / 2 ^ 3=x / 8:=rfl
 have d10:y / 2 ^ 10=y / 1024:=rfl
 rw [d3,d10]
 generalize x32 (x32 (rotr x 7) (rotr x 18)) (x / 8)=s at *
 generalize x32 (x32 (rotr y 17) (rotr y 19)) (y / 1024)=r at *
 simp only [M] at *
 simp only [md]
 omega
theorem step_eq {a b c d e f g h k w:Nat} (ha:a < M) (hb:b < M) (hc:c < M) (hd:d < M) (he:e < M) (hf:f < M) (hg:g < M) (hh:h < M) (hk:k < M) (hw:w < M) {S Ch X R Mj:Nat}
  (hS:S=(rotr e (Int.toNat 6) % md .u64 ^^^ rotr e (Int.toNat 11) % md .u64) % md .u64 ^^^ rotr e (Int.toNat 25) % md .u64)
  (hC:Ch=(e % md .u64&&& f % md .u64) % md .u64 ^^^ ((4294967295+(md .u64 - e % md .u64)) % md .u64 % md .u64&&& g % md .u64) % md .u64)
  (hX:X=((((h+S) % md .u64+Ch) % md .u64+k) % md .u64+w) % md .u64 % 4294967296)
  (hR:R=(rotr a (Int.toNat 2) % md .u64 ^^^ rotr a (Int.toNat 13) % md .u64) % md .u64 ^^^ rotr a (Int.toNat 22) % md .u64)
  (hM:Mj=((a % md .u64&&& b % md .u64) % md .u64 ^^^ (a % md .u64&&& c % md .u64) % md .u64) % md .u64 ^^^ (b % md .u64&&& c % md .u64) % md .u64) :
  step ⟨a,b,c,d,e,f,g,h⟩ k w=⟨((X+R) % md .u64+Mj) % md .u64 % 4294967296,a,b,c,(d+X) % md .u64 % 4294967296,e,f,g⟩:=by
 have n32_lt:n32 e < M:=Nat.xor_lt_two_pow (n:=32) (by decide) (Nat.mod_lt _ (by decide))
 have t2:Int.toNat 2=2:=rfl
 have t6:Int.toNat 6=6:=rfl
 have t11:Int.toNat 11=11:=rfl
 have t13:Int.toNat 13=13:=rfl
 have t22:Int.toNat 22=22:=rfl
 have t25:Int.toNat 25=25:=rfl
 rw [t6,t11,t25,x32_eq (rotr_lt he (by decide)) (rotr_lt he (by decide)),x32_eq (x32_lt _ _) (rotr_lt he (by decide))] at hS
 rw [t2,t13,t22,x32_eq (rotr_lt ha (by decide)) (rotr_lt ha (by decide)),x32_eq (x32_lt _ _) (rotr_lt ha (by decide))] at hR
 rw [n32_eq he,a32_eq he hf,a32_eq n32_lt hg,x32_eq (a32_lt _ _) (a32_lt _ _)] at hC
 rw [a32_eq ha hb,a32_eq ha hc,a32_eq hb hc,x32_eq (a32_lt _ _) (a32_lt _ _),x32_eq (x32_lt _ _) (a32_lt _ _)] at hM
 have h1:=x32_lt (x32 (rotr e 6) (rotr e 11)) (rotr e 25)
 have h2:=x32_lt (a32 e f) (a32 (n32 e) g)
 have h3:=x32_lt (x32 (rotr a 2) (rotr a 13)) (rotr a 22)
 have h4:=x32_lt (x32 (a32 a b) (a32 a c)) (a32 b c)
 unfold step stepX stepY
 simp only
 rw [← hS,← hC,← hR,← hM]
 rw [← hS] at h1;rw [← hC] at h2;rw [← hR] at h3;rw [← hM] at h4
 clear hS hC hR hM
 subst hX
 simp only [M] at *
 simp only [md]
 refine V8.mk.injEq .. |>.mpr ⟨by omega,rfl,rfl,rfl,by omega,rfl,rfl,rfl⟩
theorem spreadTo_stay (b:List Nat) (t i:Nat) (h:i < t):∀ k,(spreadTo b (t+k)).getD i default=(spreadTo b t).getD i default
 | 0=>rfl
 | k+1=>by
  rw [← spreadTo_stay b t i h k,← Nat.add_assoc]
  rw [spreadTo,List.getD_eq_getElem?_getD,List.getD_eq_getElem?_getD,List.getElem?_set_ne (by omega)]
theorem consts_lt (i:Nat):consts.getD i default < M:=by
 rcases Nat.lt_or_ge i 64 with h|h
 ·have:∀ i,i < 64→consts.getD i default < M:=by decide
  exact this i h
 ·rw [List.getD_eq_getElem?_getD,List.getElem?_eq_none (by rw [consts_len];exact h)];decide
theorem lenB {N i:Nat} (hN:N < 18446744073709551616) (hi:i < 8):((N * 256 ^ i) % 18446744073709551616 / 72057594037927936) % 256=(N % 18446744073709551616 / 2 ^ (8 * (7 - i))) % 256:=by
 have h:i=0∨i=1∨i=2∨i=3∨i=4∨i=5∨i=6∨i=7:=by omega
 rcases h with rfl|rfl|rfl|rfl|rfl|rfl|rfl|rfl
 all_goals simp only [Nat.reducePow,Nat.reduceMul,Nat.reduceSub]
 all_goals omega
end Go.Aw.Sha
