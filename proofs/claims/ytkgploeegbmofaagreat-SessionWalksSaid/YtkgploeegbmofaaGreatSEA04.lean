/- carts: how numbers, entries and dots stand to each other -/
import Derived.Test.YtkgploeegbmofaaGreatSEA01
import Derived.Test.YtkgploeegbmofaaGreatSEA03
namespace Go.Proofs.YtkgploeegbmofaaGreat.Ca
open Go Go.RowKit Go.Aw Go.Aw.Cart
set_option linter.unusedVariables false
set_option linter.unusedSimpArgs false
set_option maxRecDepth 8000
set_option maxHeartbeats 4000000
abbrev ints (l:List Int) (ex:Bool):AV:=.p (.sl 1 (l.map fun n=>[PVal.i n]) ex)
abbrev eL (e:Ent):List AC:=[.p (.i e.1),.p (.i e.2.1),.p (.k .u64 e.2.2.1),.p (.i e.2.2.2)]
abbrev eR (e:Ent):List PVal:=[.i e.1,.i e.2.1,.k .u64 e.2.2.1,.i e.2.2.2]
abbrev eV (e:Ent):AV:=.a (eL e)
abbrev dL (d:Dot):List AC:=[.p (.i d.1),.p (.k .u64 d.2)]
abbrev dR (d:Dot):List PVal:=[.i d.1,.k .u64 d.2]
abbrev dV (d:Dot):AV:=.a (dL d)
theorem isNaN_i (x:Int):PCall Tryz.prog 169 [.p (.i x)] (.p (.b false)):=by
 refine pcall_of Tryz.func169 rfl (fun w0 F S0 M0=>?_)
 repeat' (first|refine jx0 ?_|refine jy0 ?_ ?_|exact spF|refine spQ fun hq hq'=>?_|refine spN fun hn=>?_|fail)
 all_goals exact rt1 rfl rfl finS_p (rb (decide_eq_false (p:=x≠x) fun q=>q rfl).symm)
instance {x:Int}:PC Tryz.prog 169 [.p (.i x)] True (.p (.b false)):=⟨fun _=>isNaN_i x⟩
theorem isNaN_u (x:Int):PCall Tryz.prog 170 [.p (.k .u64 x)] (.p (.b false)):=by
 refine pcall_of Tryz.func170 rfl (fun w0 F S0 M0=>?_)
 repeat' (first|refine jx0 ?_|refine jy0 ?_ ?_|exact spF|refine spQ fun hq hq'=>?_|refine spN fun hn=>?_|fail)
 all_goals exact rt1 rfl rfl finS_p (rb (decide_eq_false (p:=x≠x) fun q=>q rfl).symm)
instance {x:Int}:PC Tryz.prog 170 [.p (.k .u64 x)] True (.p (.b false)):=⟨fun _=>isNaN_u x⟩
theorem compare_i (x y:Int):PCall Tryz.prog 146 [.p (.i x),.p (.i y)] (.p (.i (cmpI x y))):=by
 refine pcall_of Tryz.func146 rfl (fun w0 F S0 M0=>?_)
 unfold cmpI
 by_cases h1:x < y
 ·have d1:decide (x < y)=true:=decide_eq_true h1
  rw [if_pos h1]
  repeat' (first|refine jx0 ?_|refine jy0 ?_ ?_|exact spF|refine spQ fun hq hq'=>?_|refine spN fun hn=>?_|fail)
  exact rt1 rfl rfl finS_p rfl
 ·have d1:decide (x < y)=false:=decide_eq_false h1
  rw [if_neg h1]
  by_cases h2:y < x
  ·have d2:decide (y < x)=true:=decide_eq_true h2
   rw [if_pos h2]
   repeat' (first|refine jx0 ?_|refine jy0 ?_ ?_|exact spF|refine spQ fun hq hq'=>?_|refine spN fun hn=>?_|fail)
   exact rt1 rfl rfl finS_p rfl
  ·have d2:decide (y < x)=false:=decide_eq_false h2
   rw [if_neg h2]
   repeat' (first|refine jx0 ?_|refine jy0 ?_ ?_|exact spF|refine spQ fun hq hq'=>?_|refine spN fun hn=>?_|fail)
   exact rt1 rfl rfl finS_p rfl
instance {x y:Int}:PC Tryz.prog 146 [.p (.i x),.p (.i y)] True (.p (.i (cmpI x y))):=⟨fun _=>compare_i x y⟩
theorem compare_u (x y:Int):PCall Tryz.prog 147 [.p (.k .u64 x),.p (.k .u64 y)] (.p (.i (cmpI x y))):=by
 refine pcall_of Tryz.func147 rfl (fun w0 F S0 M0=>?_)
 unfold cmpI
 by_cases h1:x < y
 ·have d1:decide (x < y)=true:=decide_eq_true h1
  rw [if_pos h1]
  repeat' (first|refine jx0 ?_|refine jy0 ?_ ?_|exact spF|refine spQ fun hq hq'=>?_|refine spN fun hn=>?_|fail)
  exact rt1 rfl rfl finS_p rfl
 ·have d1:decide (x < y)=false:=decide_eq_false h1
  rw [if_neg h1]
  by_cases h2:y < x
  ·have d2:decide (y < x)=true:=decide_eq_true h2
   rw [if_pos h2]
   repeat' (first|refine jx0 ?_|refine jy0 ?_ ?_|exact spF|refine spQ fun hq hq'=>?_|refine spN fun hn=>?_|fail)
   exact rt1 rfl rfl finS_p rfl
  ·have d2:decide (y < x)=false:=decide_eq_false h2
   rw [if_neg h2]
   repeat' (first|refine jx0 ?_|refine jy0 ?_ ?_|exact spF|refine spQ fun hq hq'=>?_|refine spN fun hn=>?_|fail)
   exact rt1 rfl rfl finS_p rfl
instance {x y:Int}:PC Tryz.prog 147 [.p (.k .u64 x),.p (.k .u64 y)] True (.p (.i (cmpI x y))):=⟨fun _=>compare_u x y⟩
theorem or_i (l:List Int) (ex:Bool) (h:l.length≤1000):PCall Tryz.prog 145 [ints l ex] (.p (.i (orF l))):=by
 refine pcall_of Tryz.func145 rfl (fun w0 F S0 M0=>?_)
 have e0:orF l=orFrom l 0 l.length:=by rw [orFrom_is l.length 0 (by omega),List.drop_zero]
 rw [e0]
 obtain ⟨A,hA⟩:∃ A,A=orFrom l 0 l.length:=⟨_,rfl⟩
 rw [← hA]
 repeat' (first|refine jx0 ?_|refine jy0 ?_ ?_|exact spF|refine spQ fun hq hq'=>?_|refine spN fun hn=>?_|fail)
 refine aws_loopS [2,5,8,9,10,11,12,13,14,15,16] [] (fun (i:Nat)=>[(8,.p (.i i))]) (fun _=>[]) (fun i=>i≤l.length∧A=orFrom l i (l.length - i)) (fun i=>l.length - i) 0 ⟨Nat.zero_le _,hA⟩ (by exact knA) (by exact knA) ?_
 rintro i β γ ⟨hi,hx⟩
 by_cases hil:i < l.length
 ·have hlt:decide ((i:Int) < l.length)=true:=decide_eq_true (by omega)
  rw [show l.length - i=(l.length - (i+1))+1 by omega,orFrom] at hx
  by_cases hv:l.getD (i:Int).toNat default≠0
  ·have hd:decide (l.getD (i:Int).toNat default≠0)=true:=decide_eq_true hv
   rw [Int.toNat_natCast] at hv
   rw [if_pos hv] at hx
   rw [hx]
   repeat' (first|refine jx0 ?_|refine jy0 ?_ ?_|exact spF|refine spQ fun hq hq'=>?_|refine spN fun hn=>?_|fail)
   exact rt1 rfl rfl finS_p rfl
  ·have hd:decide (l.getD (i:Int).toNat default≠0)=false:=decide_eq_false hv
   rw [Int.toNat_natCast] at hv
   rw [if_neg hv] at hx
   repeat' (first|refine jx0 ?_|refine jy0 ?_ ?_|exact spF|refine spQ fun hq hq'=>?_|refine spN fun hn=>?_|fail)
   exact ⟨i+1,_,by omega,⟨by omega,hx⟩,.refl,by exact frA⟩
 ·have hlt:decide ((i:Int) < l.length)=false:=decide_eq_false (by omega)
  rw [show l.length - i=0 by omega,orFrom] at hx
  rw [hx]
  repeat' (first|refine jx0 ?_|refine jy0 ?_ ?_|exact spF|refine spQ fun hq hq'=>?_|refine spN fun hn=>?_|fail)
  exact rt1 rfl rfl finS_p rfl
instance or4 {a b c d:Int} {ex:Bool}:PC Tryz.prog 145 [.p (.sl 1 [[.i a],[.i b],[.i c],[.i d]] ex)] True (.p (.i (orF [a,b,c,d]))):=⟨fun _=>or_i [a,b,c,d] ex (by simp)⟩
instance (priority:=high) or2m {a b:Int} {ex:Bool}:PC Tryz.prog 145 [ints [a,b] ex] True (.p (.i (orF [a,b]))):=⟨fun _=>or_i [a,b] ex (by simp)⟩
theorem ordE_w (a b:Ent):PCall Tryz.prog 106 [eV a,eV b] (.p (.i (ordE a b))):=by
 refine pcall_of Tryz.func106 rfl (fun w0 F S0 M0=>?_)
 repeat' (first|refine jx0 ?_|refine jy0 ?_ ?_|exact spF|refine spQ fun hq hq'=>?_|refine spN fun hn=>?_|fail)
 exact rt1 rfl rfl finS_p rfl
instance {a b:Ent}:PC Tryz.prog 106 [eV a,eV b] True (.p (.i (ordE a b))):=⟨fun _=>ordE_w a b⟩
theorem less_w (a b:Dot):PCall Tryz.prog 199 [dV a,dV b] (.p (.b (decide (ordD a b < 0)))):=by
 refine pcall_of Tryz.func199 rfl (fun w0 F S0 M0=>?_)
 repeat' (first|refine jx0 ?_|refine jy0 ?_ ?_|exact spF|refine spQ fun hq hq'=>?_|refine spN fun hn=>?_|fail)
 exact rt1 rfl rfl finS_p rfl
instance {a b:Dot}:PC Tryz.prog 199 [dV a,dV b] True (.p (.b (decide (ordD a b < 0)))):=⟨fun _=>less_w a b⟩
theorem cmpD_w (a b:Dot):PCall Tryz.prog 187 [dV a,dV b] (.p (.i (cmpD a b))):=by
 refine pcall_of Tryz.func187 rfl (fun w0 F S0 M0=>?_)
 unfold cmpD
 by_cases h1:ordD a b < 0
 ·have d1:decide (ordD a b < 0)=true:=decide_eq_true h1
  rw [if_pos h1]
  repeat' (first|refine jx0 ?_|refine jy0 ?_ ?_|exact spF|refine spQ fun hq hq'=>?_|refine spN fun hn=>?_|fail)
  exact rt1 rfl rfl finS_p rfl
 ·have d1:decide (ordD a b < 0)=false:=decide_eq_false h1
  rw [if_neg h1]
  by_cases h2:ordD b a < 0
  ·have d2:decide (ordD b a < 0)=true:=decide_eq_true h2
   rw [if_pos h2]
   repeat' (first|refine jx0 ?_|refine jy0 ?_ ?_|exact spF|refine spQ fun hq hq'=>?_|refine spN fun hn=>?_|fail)
   exact rt1 rfl rfl finS_p rfl
  ·have d2:decide (ordD b a < 0)=false:=decide_eq_false h2
   rw [if_neg h2]
   repeat' (first|refine jx0 ?_|refine jy0 ?_ ?_|exact spF|refine spQ fun hq hq'=>?_|refine spN fun hn=>?_|fail)
   exact rt1 rfl rfl finS_p rfl
end Go.Proofs.YtkgploeegbmofaaGreat.Ca
