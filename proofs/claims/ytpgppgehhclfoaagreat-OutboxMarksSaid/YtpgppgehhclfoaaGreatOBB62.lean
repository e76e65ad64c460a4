/- trees: what is above and below a place. -/
import Derived.Test.YtpgppgehhclfoaaGreatOBB88
import Derived.Test.YtpgppgehhclfoaaGreatOBB86
import Derived.Test.YtpgppgehhclfoaaGreatOBA05
namespace Go.Proofs.YtpgppgehhclfoaaGreat.Tr
open Go Go.RowKit Go.Aw Go.Aw.Sha Go.Aw.Tree Go.Proofs.YtpgppgehhclfoaaGreat.Sh
set_option linter.unusedVariables false
set_option linter.unusedSimpArgs false
set_option maxRecDepth 8000
abbrev ints (l:List Int) (ex:Bool):AV:=.p (.sl 1 (l.map fun n=>[PVal.i n]) ex)
theorem isPlace_c (p:Int):PCall Tryz.prog 166 [.p (.i p)] (.p (.b (plc p))):=by
 refine pcall_of Tryz.func166 rfl (fun w0 F S0 M0=>?_)
 repeat' (first|refine jx12 ?_|refine jy0 ?_ ?_|exact spF|refine spQ fun hq hq'=>?_|refine spN fun hn=>?_|fail)
 all_goals (refine rt1 rfl rfl finS_p ?_;simp [plc, *];try omega)
instance {p:Int}:PC Tryz.prog 166 [.p (.i p)] True (.p (.b (plc p))):=⟨fun _=>isPlace_c p⟩
theorem plc_cases (p:Int):(plc p=true∧(0≤p∧p < 21)∧(!plc p)=false)∨(plc p=false∧¬ (0≤p∧p < 21)∧(!plc p)=true):=by
 by_cases h:0≤p∧p < 21
 ·have:plc p=true:=by simp [plc,h]
  exact .inl ⟨this,h,by rw [this];rfl⟩
 ·have:plc p=false:=decide_eq_false h
  exact .inr ⟨this,h,by rw [this];rfl⟩
theorem leafOf_c (p:Int):PCall Tryz.prog 137 [.p (.i p)] (.p (.i (leafOf p))):=by
 refine pcall_of Tryz.func137 rfl (fun w0 F S0 M0=>?_)
 rcases plc_cases p with ⟨h0,h1,h0'⟩ | ⟨h0,h1,h0'⟩
 all_goals repeat' (first|refine jx12 ?_|refine jy0 ?_ ?_|exact spF|refine spQ fun hq hq'=>?_|refine spN fun hn=>?_|fail)
 all_goals first|(refine rt1 rfl rfl finS_p ?_;unfold leafOf;split<;>first|rfl|(exfalso;omega))|(exfalso;simp_all;done)
theorem up_c (p:Int):PCall Tryz.prog 167 [.p (.i p)] (.p (.i (upF p))):=by
 refine pcall_of Tryz.func167 rfl (fun w0 F S0 M0=>?_)
 rcases plc_cases p with ⟨h0,h1,h0'⟩ | ⟨h0,h1,h0'⟩
 all_goals repeat' (first|refine jx12 ?_|refine jy0 ?_ ?_|exact spF|refine spQ fun hq hq'=>?_|refine spN fun hn=>?_|fail)
 all_goals first|(refine rt1 rfl rfl finS_p ?_;unfold upF;split<;>first|rfl|(exfalso;omega))|(exfalso;simp_all;done)
instance {p:Int}:PC Tryz.prog 167 [.p (.i p)] True (.p (.i (upF p))):=⟨fun _=>up_c p⟩
theorem level_c (p:Int):PCall Tryz.prog 134 [.p (.i p)] (.p (.i (levelF p))):=by
 refine pcall_of Tryz.func134 rfl (fun w0 F S0 M0=>?_)
 repeat' (first|refine jx12 ?_|refine jy0 ?_ ?_|exact spF|refine spQ fun hq hq'=>?_|refine spN fun hn=>?_|fail)
 have hb:=levelF_in p
 refine aws_loopF [3,4,6,7,8,9,10,11] [] (fun (x:Int × Int)=>[(3,.p (.i x.1)),(4,.p (.i x.2))]) (fun _=>[]) (fun x=>levelF p=x.1+1+levelF x.2 ∧ -1≤x.1) (fun x=>(x.2+1).toNat) (-1,p) ⟨by simp,by simp⟩ (by exact knA) (by exact knA) ?_
 rintro ⟨n,q⟩ β γ ⟨h1,h2⟩
 simp only at h1 h2
 have hq1:=levelF_in q
 dsimp only
 rcases plc_cases q with ⟨h0,h3,_⟩ | ⟨h0,h3,_⟩
 ·have:=levelF_up h0
  repeat' (first|refine jx12 ?_|refine jy0 ?_ ?_|exact spF|refine spQ fun hq hq'=>?_|refine spN fun hn=>?_|fail)
  exact ⟨(n+1,upF q),upF_lt h0,⟨by dsimp only;omega,by dsimp only;omega⟩,by exact frA⟩
 ·have:=levelF_out h0
  repeat' (first|refine jx12 ?_|refine jy0 ?_ ?_|exact spF|refine spQ fun hq hq'=>?_|refine spN fun hn=>?_|fail)
  refine rt1 rfl rfl finS_p (ri ?_);omega
end Go.Proofs.YtpgppgehhclfoaaGreat.Tr
