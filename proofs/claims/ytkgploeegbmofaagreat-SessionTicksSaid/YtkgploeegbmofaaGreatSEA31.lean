/- walks of two trees: kids, digests, leaves -/
import Derived.Test.YtkgploeegbmofaaGreatSEA14
import Derived.Test.YtkgploeegbmofaaGreatSEA23
import Derived.Test.YtkgploeegbmofaaGreatSEA01
namespace Go.Proofs.YtkgploeegbmofaaGreat.Cl
open Go Go.RowKit Go.Aw Go.Aw.Sha Go.Aw.Tree Go.Aw.Clash Go.Proofs.YtkgploeegbmofaaGreat.Sh Go.Proofs.YtkgploeegbmofaaGreat.Tr
set_option linter.unusedVariables false
set_option linter.unusedSimpArgs false
set_option maxRecDepth 8000
attribute [local irreducible] sum
set_option maxHeartbeats 4000000
abbrev digs (ls:List (List Nat)) (ex:Bool):AV:=.p (.sl 32 (ls.map fun r=>r.map fun n:Nat=>PVal.k .u8 (n:Int)) ex)
theorem kids_w (l:List Int) (ex:Bool) (hl:l.length≤100):PCall Tryz.prog 124 [ints l ex] (ints (kidsL l) false):=by
 refine pcall_of Tryz.func124 rfl (fun w0 F S0 M0=>?_)
 repeat' (first|refine jx17 ?_|refine jy0 ?_ ?_|exact spF|refine spQ fun hq hq'=>?_|refine spN fun hn=>?_|fail)
 refine aws_says (says_nil (t:=3) (o:=900) (ty:=3) (es:=1) rfl rfl (by decide)) ?_
 refine aws_loopS [3,5,8,9,10,11,12,13,14,15,16] [900] (fun (x:Nat × Nat × List Int)=>[(3,.o (.osl 900 x.2.1 1 0 x.2.2.length)),(8,.p (.i x.1))]) (fun x=>[(900,(x.2.1+1,some (.buf 3 1 (x.2.2.map fun n=>[PVal.i n]))))])
  (fun x=>x.1≤l.length∧x.2.2=kidsL (l.take x.1)) (fun x=>l.length - x.1) (0,0,[]) ⟨Nat.zero_le _,rfl⟩ (by exact knA) (by exact knA) ?_
 rintro ⟨i,g,out⟩ β γ ⟨hi,hout⟩
 simp only at hi hout
 have hol:out.length≤400:=by rw [hout];have:=kidsL_le (l.take i);rw [List.length_take] at this;omega
 dsimp only
 by_cases hil:i < l.length
 ·have hlt:decide ((i:Int) < l.length)=true:=decide_eq_true (by omega)
  have hkl:=kidsF_le (l.getD ((i:Nat):Int).toNat default)
  repeat' (first|refine jx17 ?_|refine jy0 ?_ ?_|exact spF|refine spQ fun hq hq'=>?_|refine spN fun hn=>?_|fail)
  refine ⟨(i+1,g+1,out++kidsF (l.getD ((i:Nat):Int).toNat default)),_,by dsimp only;omega,⟨by dsimp only;omega,?_⟩,.refl,by exact frA⟩
  dsimp only
  rw [kidsL_snoc hil,hout];rfl
 ·have hlt:decide ((i:Int) < l.length)=false:=decide_eq_false (by omega)
  repeat' (first|refine jx17 ?_|refine jy0 ?_ ?_|exact spF|refine spQ fun hq hq'=>?_|refine spN fun hn=>?_|fail)
  refine rt1 rfl rfl (.one (finC_map rfl rfl rfl rfl)) (rs ?_)
  rw [hout,List.take_of_length_le (by omega)]
instance {l:List Int} {ex:Bool}:PC Tryz.prog 124 [ints l ex] (l.length≤100) (ints (kidsL l) false):=⟨kids_w l ex⟩
theorem leaves_w (l:List Int) (ex:Bool) (hl:l.length≤100):PCall Tryz.prog 33 [ints l ex] (ints (leavesL l) false):=by
 refine pcall_of Tryz.func33 rfl (fun w0 F S0 M0=>?_)
 repeat' (first|refine jx17 ?_|refine jy0 ?_ ?_|exact spF|refine spQ fun hq hq'=>?_|refine spN fun hn=>?_|fail)
 refine aws_says (says_nil (t:=3) (o:=900) (ty:=3) (es:=1) rfl rfl (by decide)) ?_
 refine aws_loopS [3,5,6,9,10,11,12,13,14,15,16,17,18,19,20,21] [900] (fun (x:Nat × Nat × List Int)=>[(3,.o (.osl 900 x.2.1 1 0 x.2.2.length)),(9,.p (.i x.1))]) (fun x=>[(900,(x.2.1+1,some (.buf 3 1 (x.2.2.map fun n=>[PVal.i n]))))])
  (fun x=>x.1≤l.length∧x.2.2=leavesL (l.take x.1)) (fun x=>l.length - x.1) (0,0,[]) ⟨Nat.zero_le _,rfl⟩ (by exact knA) (by exact knA) ?_
 rintro ⟨i,g,out⟩ β γ ⟨hi,hout⟩
 simp only at hi hout
 have hol:out.length≤100:=by rw [hout];have:=leavesL_le (l.take i);rw [List.length_take] at this;omega
 dsimp only
 by_cases hil:i < l.length
 ·have hlt:decide ((i:Int) < l.length)=true:=decide_eq_true (by omega)
  by_cases h0:0≤leafOf (l.getD ((i:Nat):Int).toNat default)
  ·have hd0:decide (0≤leafOf (l.getD ((i:Nat):Int).toNat default))=true:=decide_eq_true h0
   repeat' (first|refine jx17 ?_|refine jy0 ?_ ?_|exact spF|refine spQ fun hq hq'=>?_|refine spN fun hn=>?_|fail)
   refine ⟨(i+1,g+1,out++[leafOf (l.getD ((i:Nat):Int).toNat default)]),_,by dsimp only;omega,⟨by dsimp only;omega,?_⟩,.refl,by exact frA⟩
   dsimp only
   rw [Int.toNat_natCast] at h0
   rw [leavesL_snoc hil,hout,if_pos h0];rfl
  ·have hd0:decide (0≤leafOf (l.getD ((i:Nat):Int).toNat default))=false:=decide_eq_false h0
   repeat' (first|refine jx17 ?_|refine jy0 ?_ ?_|exact spF|refine spQ fun hq hq'=>?_|refine spN fun hn=>?_|fail)
   refine ⟨(i+1,g,out),_,by dsimp only;omega,⟨by dsimp only;omega,?_⟩,.refl,by exact frA⟩
   dsimp only
   rw [Int.toNat_natCast] at h0
   rw [leavesL_snoc hil,hout,if_neg h0,List.append_nil]
 ·have hlt:decide ((i:Int) < l.length)=false:=decide_eq_false (by omega)
  repeat' (first|refine jx17 ?_|refine jy0 ?_ ?_|exact spF|refine spQ fun hq hq'=>?_|refine spN fun hn=>?_|fail)
  refine rt1 rfl rfl (.one (finC_map rfl rfl rfl rfl)) (rs ?_)
  rw [hout,List.take_of_length_le (by omega)]
instance {l:List Int} {ex:Bool}:PC Tryz.prog 33 [ints l ex] (l.length≤100) (ints (leavesL l) false):=⟨leaves_w l ex⟩
theorem same_w (T U:List Nat) (h:T.length=672∧U.length=672):PCall Tryz.prog 36 [tv T,tv U] (.p (.b (decide (row T 0=row U 0)))):=by
 refine pcall_of Tryz.func36 rfl (fun w0 F S0 M0=>?_)
 obtain ⟨hT,hU⟩:=h
 have h1:(rowOf 32 T (Int.toNat 0)).length=32:=row_len hT (by omega)
 have h2:(rowOf 32 U (Int.toNat 0)).length=32:=row_len hU (by omega)
 repeat' (first|refine jx17 ?_|refine jy0 ?_ ?_|exact spF|refine spQ fun hq hq'=>?_|refine spN fun hn=>?_|fail)
 exact rt1 rfl rfl finS_p (rb rfl)
instance {T U:List Nat}:PC Tryz.prog 36 [tv T,tv U] (T.length=672∧U.length=672) (.p (.b (decide (row T 0=row U 0)))):=⟨same_w T U⟩
theorem digs_w (T:List Nat) (l:List Int) (ex:Bool) (h:T.length=672∧l.length≤100):PCall Tryz.prog 79 [tv T,ints l ex] (digs (digsL T (kidsL l)) false):=by
 refine pcall_of Tryz.func79 rfl (fun w0 F S0 M0=>?_)
 obtain ⟨hT,hl⟩:=h
 have hkl:=kidsL_le l
 repeat' (first|refine jx17 ?_|refine jy0 ?_ ?_|exact spF|refine spQ fun hq hq'=>?_|refine spN fun hn=>?_|fail)
 refine aws_says (says_nil (t:=5) (o:=900) (ty:=34) (es:=32) rfl rfl (by decide)) ?_
 refine aws_loopS [5,7,11,12,13,14,15,16,17,18,19,20,21] [900] (fun (x:Nat × Nat × List (List Nat))=>[(5,.o (.osl 900 x.2.1 32 0 x.2.2.length)),(11,.p (.i x.1))]) (fun x=>[(900,(x.2.1+1,some (.buf 34 32 (x.2.2.map fun r=>r.map fun n:Nat=>PVal.k .u8 (n:Int)))))])
  (fun x=>x.1≤(kidsL l).length∧x.2.2=digsL T ((kidsL l).take x.1)) (fun x=>(kidsL l).length - x.1) (0,0,[]) ⟨Nat.zero_le _,rfl⟩ (by exact knA) (by exact knA) ?_
 rintro ⟨i,g,out⟩ β γ ⟨hi,hout⟩
 simp only at hi hout
 have hol:out.length=i:=by rw [hout];unfold digsL;rw [List.length_map,List.length_take];omega
 dsimp only
 by_cases hil:i < (kidsL l).length
 ·have hlt:decide ((i:Int) < (kidsL l).length)=true:=decide_eq_true (by omega)
  have hm:=kidsL_get hil
  rw [← Int.toNat_natCast i] at hm
  have hrl:(rowOf 32 T ((kidsL l).getD ((i:Nat):Int).toNat default).toNat).length=32:=row_len hT (by omega)
  repeat' (first|refine jx18 ?_|refine jy0 ?_ ?_|exact spF|refine spQ fun hq hq'=>?_|refine spN fun hn=>?_|fail)
  refine ⟨(i+1,g+1,out++[rowOf 32 T ((kidsL l).getD ((i:Nat):Int).toNat default).toNat]),_,by dsimp only;omega,⟨by dsimp only;omega,?_⟩,.refl,by exact frA⟩
  dsimp only
  rw [digsL_snoc hil,hout];rfl
 ·have hlt:decide ((i:Int) < (kidsL l).length)=false:=decide_eq_false (by omega)
  repeat' (first|refine jx17 ?_|refine jy0 ?_ ?_|exact spF|refine spQ fun hq hq'=>?_|refine spN fun hn=>?_|fail)
  refine rt1 rfl rfl (.one (finC_map rfl rfl rfl rfl)) (rs ?_)
  rw [hout,List.take_of_length_le (by omega)]
instance {T:List Nat} {l:List Int} {ex:Bool}:PC Tryz.prog 79 [tv T,ints l ex] (T.length=672∧l.length≤100) (digs (digsL T (kidsL l)) false):=⟨digs_w T l ex⟩
theorem unlike_w (T U:List Nat) (l:List Int) (ex ey:Bool) (h:T.length=672∧U.length=672∧l.length≤100):PCall Tryz.prog 101 [tv T,ints l ex,digs (digsL U (kidsL l)) ey] (.tup [.one (.p (.sl 1 ((unL T U l).map fun n=>[PVal.i n]) false)),.one (.p (.i 0))]):=by
 refine pcall_of Tryz.func101 rfl (fun w0 F S0 M0=>?_)
 obtain ⟨hT,hU,hl⟩:=h
 have hkl:=kidsL_le l
 have hdl:(digsL U (kidsL l)).length=(kidsL l).length:=by unfold digsL;rw [List.length_map]
 have hne:decide (((kidsL l).length:Int)≠(digsL U (kidsL l)).length)=false:=decide_eq_false (by rw [hdl];simp)
 repeat' (first|refine jx17 ?_|refine jy0 ?_ ?_|exact spF|refine spQ fun hq hq'=>?_|refine spN fun hn=>?_|fail)
 refine aws_says (says_nil (t:=9) (o:=900) (ty:=3) (es:=1) rfl rfl (by decide)) ?_
 refine aws_loopS [9,10,11,21,22,23,24,25,26,27,28,29,30,31,32,33,34,35,36,37,38] [900] (fun (x:Nat × Nat × List Int)=>[(9,.o (.osl 900 x.2.1 1 0 x.2.2.length)),(21,.p (.i x.1))]) (fun x=>[(900,(x.2.1+1,some (.buf 3 1 (x.2.2.map fun n=>[PVal.i n]))))])
  (fun x=>x.1≤(kidsL l).length∧x.2.2=((kidsL l).take x.1).filter (un T U)) (fun x=>(kidsL l).length - x.1) (0,0,[]) ⟨Nat.zero_le _,rfl⟩ (by exact knA) (by exact knA) ?_
 rintro ⟨i,g,out⟩ β γ ⟨hi,hout⟩
 simp only at hi hout
 have hol:out.length≤400:=by
  rw [hout]
  have:=List.length_filter_le (un T U) ((kidsL l).take i)
  rw [List.length_take] at this;omega
 dsimp only
 by_cases hil:i < (kidsL l).length
 ·have hlt:decide ((i:Int) < (kidsL l).length)=true:=decide_eq_true (by omega)
  have hm:=kidsL_get hil
  rw [← Int.toNat_natCast i] at hm
  have hrl:(rowOf 32 T ((kidsL l).getD ((i:Nat):Int).toNat default).toNat).length=32:=row_len hT (by omega)
  have hge:(digsL U (kidsL l)).getD ((i:Nat):Int).toNat default=row U ((kidsL l).getD ((i:Nat):Int).toNat default).toNat:=by rw [Int.toNat_natCast];exact digsL_get hil
  have hrm:((digsL U (kidsL l)).getD ((i:Nat):Int).toNat default).length=32:=by rw [hge];exact row_len hU (by omega)
  cases hu:un T U ((kidsL l).getD ((i:Nat):Int).toNat default) with
  | true=>
   have hd0:(!decide (rowOf 32 T ((kidsL l).getD ((i:Nat):Int).toNat default).toNat=(digsL U (kidsL l)).getD ((i:Nat):Int).toNat default))=true:=by
    rw [hge];unfold un at hu;simpa using hu
   repeat' (first|refine jx19 ?_|refine jy0 ?_ ?_|exact spF|refine spQ fun hq hq'=>?_|refine spN fun hn=>?_|fail)
   refine ⟨(i+1,g+1,out++[(kidsL l).getD ((i:Nat):Int).toNat default]),_,by dsimp only;omega,⟨by dsimp only;omega,?_⟩,.refl,by exact frA⟩
   dsimp only
   rw [Int.toNat_natCast] at hu
   rw [filter_snoc hil,hout,hu,if_pos rfl];rfl
  | false=>
   have hd0:(!decide (rowOf 32 T ((kidsL l).getD ((i:Nat):Int).toNat default).toNat=(digsL U (kidsL l)).getD ((i:Nat):Int).toNat default))=false:=by
    rw [hge];unfold un at hu;simpa using hu
   repeat' (first|refine jx19 ?_|refine jy0 ?_ ?_|exact spF|refine spQ fun hq hq'=>?_|refine spN fun hn=>?_|fail)
   refine ⟨(i+1,g,out),_,by dsimp only;omega,⟨by dsimp only;omega,?_⟩,.refl,by exact frA⟩
   dsimp only
   rw [Int.toNat_natCast] at hu
   rw [filter_snoc hil,hout,hu];simp
 ·have hlt:decide ((i:Int) < (kidsL l).length)=false:=decide_eq_false (by omega)
  repeat' (first|refine jx17 ?_|refine jy0 ?_ ?_|exact spF|refine spQ fun hq hq'=>?_|refine spN fun hn=>?_|fail)
  refine rt2 rfl rfl (.one (finC_map rfl rfl rfl rfl)) rfl finS_p ?_
  rw [hout,List.take_of_length_le (by omega)];rfl
instance {T U:List Nat} {l:List Int} {ex ey:Bool}:PC Tryz.prog 101 [tv T,ints l ex,digs (digsL U (kidsL l)) ey] (T.length=672∧U.length=672∧l.length≤100) (.tup [.one (.p (.sl 1 ((unL T U l).map fun n=>[PVal.i n]) false)),.one (.p (.i 0))]):=⟨unlike_w T U l ex ey⟩
end Go.Proofs.YtkgploeegbmofaaGreat.Cl
