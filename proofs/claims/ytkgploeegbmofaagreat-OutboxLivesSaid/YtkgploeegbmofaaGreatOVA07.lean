/- carts: equal entries -/
import Derived.Test.YtkgploeegbmofaaGreatOVA02
import Derived.Test.YtkgploeegbmofaaGreatOVA03
namespace Go.Proofs.YtkgploeegbmofaaGreat.Ca
open Go Go.RowKit Go.Aw Go.Aw.Cart
set_option linter.unusedVariables false
set_option linter.unusedSimpArgs false
set_option maxRecDepth 8000
set_option maxHeartbeats 4000000
theorem vEqE (a b:Ent):vEqB [.int .i64 a.1,.int .i64 a.2.1,.int .u64 a.2.2.1,.int .i64 a.2.2.2] [.int .i64 b.1,.int .i64 b.2.1,.int .u64 b.2.2.1,.int .i64 b.2.2.2]=decide (a=b):=by
 obtain ⟨a1,a2,a3,a4⟩:=a
 obtain ⟨b1,b2,b3,b4⟩:=b
 rw [Bool.eq_iff_iff]
 simp [vEqB,vEq]
theorem equalE_w (l m:List Ent) (ex ey:Bool) (h:l.length≤1000000000):PCall Tryz.prog 125 [.p (.sl 4 (l.map eR) ex),.p (.sl 4 (m.map eR) ey)] (.p (.b (decide (l=m)))):=by
 refine pcall_of Tryz.func125 rfl (fun w0 F S0 M0=>?_)
 by_cases hlm:l.length=m.length
 ·have d1:decide ((l.length:Int)≠(m.length:Int))=false:=decide_eq_false (by omega)
  repeat' (first|refine jx2 ?_|refine jy0 ?_ ?_|exact spF|refine spQ fun hq hq'=>?_|refine spN fun hn=>?_|fail)
  refine aws_loopS [4,5,13,14,15,16,17,18,19,20,21,22,23,24,25] [] (fun (i:Nat)=>[(13,.p (.i i))]) (fun _=>[]) (fun i=>i≤l.length∧∀ j,j < i→l.getD j default=m.getD j default) (fun i=>l.length - i) 0 ⟨Nat.zero_le _,fun j hj=>absurd hj (Nat.not_lt_zero _)⟩ (by exact knA) (by exact knA) ?_
  rintro i β γ ⟨hi,hx⟩
  by_cases hil:i < l.length
  ·have hlt:decide ((i:Int) < (l.length:Int))=true:=decide_eq_true (by omega)
   by_cases hv:l.getD (i:Int).toNat default=m.getD (i:Int).toNat default
   ·have hd:=vEqE (l.getD (i:Int).toNat default) (m.getD (i:Int).toNat default)
    rw [decide_eq_true hv] at hd
    have hd2:(!vEqB [.int .i64 (l.getD (i:Int).toNat default).1,.int .i64 (l.getD (i:Int).toNat default).2.1,.int .u64 (l.getD (i:Int).toNat default).2.2.1,.int .i64 (l.getD (i:Int).toNat default).2.2.2] [.int .i64 (m.getD (i:Int).toNat default).1,.int .i64 (m.getD (i:Int).toNat default).2.1,.int .u64 (m.getD (i:Int).toNat default).2.2.1,.int .i64 (m.getD (i:Int).toNat default).2.2.2])=false:=by rw [hd];rfl
    rw [Int.toNat_natCast] at hv
    repeat' (first|refine jx2 ?_|refine jy0 ?_ ?_|exact spF|refine spQ fun hq hq'=>?_|refine spN fun hn=>?_|fail)
    refine ⟨i+1,_,by omega,⟨by omega,fun j hj=>?_⟩,.refl,by exact frA⟩
    by_cases e:j=i
    ·rw [e];exact hv
    ·exact hx j (by omega)
   ·have hd:=vEqE (l.getD (i:Int).toNat default) (m.getD (i:Int).toNat default)
    rw [decide_eq_false hv] at hd
    have hd2:(!vEqB [.int .i64 (l.getD (i:Int).toNat default).1,.int .i64 (l.getD (i:Int).toNat default).2.1,.int .u64 (l.getD (i:Int).toNat default).2.2.1,.int .i64 (l.getD (i:Int).toNat default).2.2.2] [.int .i64 (m.getD (i:Int).toNat default).1,.int .i64 (m.getD (i:Int).toNat default).2.1,.int .u64 (m.getD (i:Int).toNat default).2.2.1,.int .i64 (m.getD (i:Int).toNat default).2.2.2])=true:=by rw [hd];rfl
    repeat' (first|refine jx2 ?_|refine jy0 ?_ ?_|exact spF|refine spQ fun hq hq'=>?_|refine spN fun hn=>?_|fail)
    refine rt1 rfl rfl finS_p (rb ?_)
    exact decide_eq_false fun q=>hv (by rw [q])
  ·have hlt:decide ((i:Int) < (l.length:Int))=false:=decide_eq_false (by omega)
   repeat' (first|refine jx2 ?_|refine jy0 ?_ ?_|exact spF|refine spQ fun hq hq'=>?_|refine spN fun hn=>?_|fail)
   refine rt1 rfl rfl finS_p (rb ?_)
   refine decide_eq_true (List.ext_getElem hlm fun j h1 h2=>?_)
   have:=hx j (by omega)
   rw [List.getD_eq_getElem?_getD,List.getD_eq_getElem?_getD,List.getElem?_eq_getElem h1,List.getElem?_eq_getElem h2] at this
   exact this
 ·have d1:decide ((l.length:Int)≠(m.length:Int))=true:=decide_eq_true (by omega)
  repeat' (first|refine jx2 ?_|refine jy0 ?_ ?_|exact spF|refine spQ fun hq hq'=>?_|refine spN fun hn=>?_|fail)
  refine rt1 rfl rfl finS_p (rb ?_)
  exact decide_eq_false fun q=>hlm (by rw [q])
instance {l m:List Ent} {ex ey:Bool}:PC Tryz.prog 125 [.p (.sl 4 (l.map eR) ex),.p (.sl 4 (m.map eR) ey)] (l.length≤1000000000) (.p (.b (decide (l=m)))):=⟨equalE_w l m ex ey⟩
end Go.Proofs.YtkgploeegbmofaaGreat.Ca
