/- trees: what is above and below a place. -/
import Derived.Test.YtkgploeegbmofaaGreatSEA14
import Derived.Test.YtkgploeegbmofaaGreatSEA18
import Derived.Test.YtkgploeegbmofaaGreatSEA43
namespace Go.Proofs.YtkgploeegbmofaaGreat.Tr
open Go Go.RowKit Go.Aw Go.Aw.Sha Go.Aw.Tree Go.Proofs.YtkgploeegbmofaaGreat.Sh
set_option linter.unusedVariables false
set_option linter.unusedSimpArgs false
set_option maxRecDepth 8000
abbrev ints (l:List Int) (ex:Bool):AV:=.p (.sl 1 (l.map fun n=>[PVal.i n]) ex)
theorem isPlace_c (p:Int):PCall Tryz.prog 119 [.p (.i p)] (.p (.b (plc p))):=by
 refine pcall_of Tryz.func119 rfl (fun w0 F S0 M0=>?_)
 repeat' (first|refine jx12 ?_|refine jy0 ?_ ?_|exact spF|refine spQ fun hq hq'=>?_|refine spN fun hn=>?_|fail)
 all_goals (refine rt1 rfl rfl finS_p ?_;simp [plc, *];try omega)
instance {p:Int}:PC Tryz.prog 119 [.p (.i p)] True (.p (.b (plc p))):=⟨fun _=>isPlace_c p⟩
theorem plc_cases (p:Int):(plc p=true∧(0≤p∧p < 21)∧(!plc p)=false)∨(plc p=false∧¬ (0≤p∧p < 21)∧(!plc p)=true):=by
 by_cases h:0≤p∧p < 21
 ·have:plc p=true:=by simp [plc,h]
  exact .inl ⟨this,h,by rw [this];rfl⟩
 ·have:plc p=false:=decide_eq_false h
  exact .inr ⟨this,h,by rw [this];rfl⟩
theorem leafOf_c (p:Int):PCall Tryz.prog 77 [.p (.i p)] (.p (.i (leafOf p))):=by
 refine pcall_of Tryz.func77 rfl (fun w0 F S0 M0=>?_)
 rcases plc_cases p with ⟨h0,h1,h0'⟩ | ⟨h0,h1,h0'⟩
 all_goals repeat' (first|refine jx12 ?_|refine jy0 ?_ ?_|exact spF|refine spQ fun hq hq'=>?_|refine spN fun hn=>?_|fail)
 all_goals first|(refine rt1 rfl rfl finS_p ?_;unfold leafOf;split<;>first|rfl|(exfalso;omega))|(exfalso;simp_all;done)
instance {p:Int}:PC Tryz.prog 77 [.p (.i p)] True (.p (.i (leafOf p))):=⟨fun _=>leafOf_c p⟩
theorem up_c (p:Int):PCall Tryz.prog 138 [.p (.i p)] (.p (.i (upF p))):=by
 refine pcall_of Tryz.func138 rfl (fun w0 F S0 M0=>?_)
 rcases plc_cases p with ⟨h0,h1,h0'⟩ | ⟨h0,h1,h0'⟩
 all_goals repeat' (first|refine jx12 ?_|refine jy0 ?_ ?_|exact spF|refine spQ fun hq hq'=>?_|refine spN fun hn=>?_|fail)
 all_goals first|(refine rt1 rfl rfl finS_p ?_;unfold upF;split<;>first|rfl|(exfalso;omega))|(exfalso;simp_all;done)
instance {p:Int}:PC Tryz.prog 138 [.p (.i p)] True (.p (.i (upF p))):=⟨fun _=>up_c p⟩
theorem level_c (p:Int):PCall Tryz.prog 98 [.p (.i p)] (.p (.i (levelF p))):=by
 refine pcall_of Tryz.func98 rfl (fun w0 F S0 M0=>?_)
 repeat' (first|refine jx12 ?_|refine jy0 ?_ ?_|exact spF|refine spQ fun hq hq'=>?_|refine spN fun hn=>?_|fail)
 have hb:=levelF_in p
 refine aws_loopF [3,4,6,7,8,9,10,11] [] (fun (x:Int × Int)=>[(3,.p (.i x.1)),(4,.p (.i x.2))]) (fun _=>[]) (fun x=>levelF p=x.1+1+levelF x.2 ∧ -1≤x.1) (fun x=>(x.2+1).toNat) (-1,p) ⟨by simp,by simp⟩ (by exact knA) (by exact knA) ?_
 rintro ⟨n,q⟩ β γ ⟨h1,h2⟩
 simp only at h1 h2
 have hq1:=levelF_in q
 dsimp only
 rcases plc_cases q with ⟨h0,h3,_⟩ | ⟨h0,h3,_⟩
 ·have:=levelF_up h0
  repeat' (first|refine jx12 ?_|refine jy0 ?_ ?_|exact spF|refine spQ fun hq hq'=>?_|refine spN fun hn=>?_|fail)
  exact ⟨(n+1,upF q),upF_lt h0,⟨by dsimp only;omega,by dsimp only;omega⟩,by exact frA⟩
 ·have:=levelF_out h0
  repeat' (first|refine jx12 ?_|refine jy0 ?_ ?_|exact spF|refine spQ fun hq hq'=>?_|refine spN fun hn=>?_|fail)
  refine rt1 rfl rfl finS_p (ri ?_);omega
theorem kids_c (p:Int):PCall Tryz.prog 154 [.p (.i p)] (ints (kidsF p) false):=by
 refine pcall_of Tryz.func154 rfl (fun w0 F S0 M0=>?_)
 rcases plc_cases p with ⟨h0,h1,h0'⟩ | ⟨h0,h1,h0'⟩
 ·by_cases h5:5≤p
  ·have hd5:decide (5≤p)=true:=decide_eq_true h5
   repeat' (first|refine jx12 ?_|refine jy0 ?_ ?_|exact spF|refine spQ fun hq hq'=>?_|refine spN fun hn=>?_|fail)
   rw [kidsF_out (by omega)]
   exact rt1 rfl rfl (.one .nil) rfl
  ·have hd5:decide (5≤p)=false:=decide_eq_false h5
   repeat' (first|refine jx12 ?_|refine jy0 ?_ ?_|exact spF|refine spQ fun hq hq'=>?_|refine spN fun hn=>?_|fail)
   refine aws_says (says_nil (t:=3) (o:=900) (ty:=3) (es:=1) rfl rfl (by decide)) ?_
   refine aws_loopF [3,4,12,13,14,15,16,17,18,19,20,21,22,23] [900] (fun (x:Nat × Nat × List Int)=>[(3,.o (.osl 900 x.2.1 1 0 x.2.2.length)),(12,.p (.i x.1))]) (fun x=>[(900,(x.2.1+1,some (.buf 3 1 (x.2.2.map fun n=>[PVal.i n]))))])
    (fun x=>x.1≤4∧x.2.2=(kidsF p).take x.1) (fun x=>4 - x.1) (0,0,[]) ⟨Nat.zero_le _,rfl⟩ (by exact knA) (by exact knA) ?_
   rintro ⟨i,g,out⟩ β γ ⟨hi,hout⟩
   simp only at hi hout
   have hkl:(kidsF p).length=4:=by rw [kidsF_in (by omega)];rfl
   have hol:out.length=i:=by rw [hout,List.length_take,hkl];omega
   dsimp only
   repeat' (first|refine jx12 ?_|refine jy0 ?_ ?_|exact spF|refine spQ fun hq hq'=>?_|refine spN fun hn=>?_|fail)
   ·refine ⟨(i+1,g+1,out++[4 * p+i+1]),by dsimp only;omega,⟨by dsimp only;omega,?_⟩,by exact frA⟩
    dsimp only
    rw [take_snocD (by omega),← hout,kidsF_get (by omega) (by omega)]
    congr 2;omega
   ·refine rt1 rfl rfl (.one (finC_map rfl rfl rfl rfl)) (rs ?_)
    rw [hout,List.take_of_length_le (by omega)]
 ·repeat' (first|refine jx12 ?_|refine jy0 ?_ ?_|exact spF|refine spQ fun hq hq'=>?_|refine spN fun hn=>?_|fail)
  rw [kidsF_out (by omega)]
  exact rt1 rfl rfl (.one .nil) rfl
instance {p:Int}:PC Tryz.prog 154 [.p (.i p)] True (ints (kidsF p) false):=⟨fun _=>kids_c p⟩
attribute [local irreducible] sum
set_option maxHeartbeats 4000000
abbrev tv (T:List Nat):AV:=.a (T.map bc)
theorem belowF_in {T:List Nat} {p:Int} (h:0≤p∧p≤4):belowF T p=belowTo T p 4:=by unfold belowF;rw [if_pos h]
theorem belowF_out {T:List Nat} {p:Int} (h:¬ (0≤p∧p≤4)):belowF T p=[]:=by unfold belowF;rw [if_neg h]
theorem below_c (T:List Nat) (p:Int) (hT:T.length=672):PCall Tryz.prog 111 [tv T,.p (.i p)] (bytesN (belowF T p) false):=by
 refine pcall_of Tryz.func111 rfl (fun w0 F S0 M0=>?_)
 by_cases hp:0≤p∧p≤4
 ·have hkl:(kidsF p).length=4:=by rw [kidsF_in hp];rfl
  have hne:decide (((kidsF p).length:Int)=0)=false:=by rw [hkl];rfl
  rw [belowF_in hp]
  repeat' (first|refine jx16 ?_|refine jy0 ?_ ?_|exact spF|refine spQ fun hq hq'=>?_|refine spN fun hn=>?_|fail)
  refine aws_loopS [6,8,17,18,19,20,21,22,23,24,25,26] [14] (fun (x:Nat × List Nat)=>[(6,.o (.osl 14 x.1 1 0 x.2.length)),(17,.p (.i x.1))]) (fun x=>[(14,(x.1+1,some (.buf 5 1 (x.2.map br))))])
   (fun x=>x.1≤4∧x.2=belowTo T p x.1) (fun x=>4 - x.1) (0,belowTo T p 0) ⟨Nat.zero_le _,rfl⟩ (by exact knA) (by exact knA) ?_
  rintro ⟨i,out⟩ β γ ⟨hi,hout⟩
  simp only at hi hout
  have hol:out.length=1+32 * i:=by rw [hout];exact belowTo_len hT hp i hi
  dsimp only
  by_cases hi4:i < 4
  ·have hk:(kidsF p).getD ((i:Nat):Int).toNat default=4 * p+1+i:=by rw [Int.toNat_natCast];exact kidsF_get hp hi4
   have hlt:decide ((i:Int) < (kidsF p).length)=true:=decide_eq_true (by omega)
   have hrl:(row T (4 * p+1+i).toNat).length=32:=row_len hT (by omega)
   repeat' (first|refine jx17 ?_|refine jy0 ?_ ?_|exact spF|refine spQ fun hq hq'=>?_|refine spN fun hn=>?_|fail)
   apply ex2 (i+1)
   apply Exists.intro
   refine ⟨?_,⟨?_,?_⟩,.refl,?_⟩
   rotate_left 3
   (focus exact frA)
   ·dsimp only;omega
   ·dsimp only;omega
   ·dsimp only
    rw [hk,hout];rfl
  ·have hlt:decide ((i:Int) < (kidsF p).length)=false:=decide_eq_false (by omega)
   repeat' (first|refine jx17 ?_|refine jy0 ?_ ?_|exact spF|refine spQ fun hq hq'=>?_|refine spN fun hn=>?_|fail)
   refine rt1 rfl rfl (.one (finC_map rfl rfl rfl rfl)) (rs ?_)
   rw [hout,show i=4 by omega]
 ·have hne:decide (((kidsF p).length:Int)=0)=true:=by rw [kidsF_out hp];rfl
  rw [belowF_out hp]
  repeat' (first|refine jx17 ?_|refine jy0 ?_ ?_|exact spF|refine spQ fun hq hq'=>?_|refine spN fun hn=>?_|fail)
  exact rt1 rfl rfl (.one .nil) rfl
instance {T:List Nat} {p:Int}:PC Tryz.prog 111 [tv T,.p (.i p)] (T.length=672) (bytesN (belowF T p) false):=⟨below_c T p⟩
end Go.Proofs.YtkgploeegbmofaaGreat.Tr
