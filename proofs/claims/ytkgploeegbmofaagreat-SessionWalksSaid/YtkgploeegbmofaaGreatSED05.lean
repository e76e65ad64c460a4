/- sessions, the law SessionWalks: up to the rounds -/
import Derived.Test.YtkgploeegbmofaaGreatSED02
import Derived.Test.YtkgploeegbmofaaGreatSED04
namespace Go.Proofs.YtkgploeegbmofaaGreat.Wi
open Go Go.RowKit Go.Aw Go.Aw.Sha Go.Aw.Cart Go.Aw.Tree Go.Aw.Clash Go.Proofs.YtkgploeegbmofaaGreat.Ca Go.Proofs.YtkgploeegbmofaaGreat.Rg
set_option linter.unusedVariables false
set_option linter.unusedSimpArgs false
set_option maxRecDepth 8000
set_option maxHeartbeats 4000000
attribute [local irreducible] sum
open SV
def RW9:Σ' X:World→(Nat→Prop)→(Nat→Prop)→Mu→Ses→List Kd→Bool→List Kd→Bool→List Nat→List Nat→List Int→Ses→(Nat→Nat)→Nat→Ses→List Int→Nat→Option MO→Nat→Option MO→(Nat→AV)→(Nat→Nat × Option MO)→Prop,∀ (s:Ses) (l:List Kd) (ex:Bool) (m:List Kd) (ey:Bool) (T U:List Nat) (Wn:List Int) (Z:Ses) (wn:Int) (c1:PCall Tryz.prog 23 [.p (.sl 10 (l.map kR) ex)] (.p (.b false))) (c2:PCall Tryz.prog 23 [.p (.sl 10 (m.map kR) ey)] (.p (.b false))) (c3:PCall Tryz.prog 28 [.p (.sl 10 (l.map kR) ex)] (.p (.b true))) (c4:PCall Tryz.prog 28 [.p (.sl 10 (m.map kR) ey)] (.p (.b true))) (c5:PCall Tryz.prog 29 [.p (.i s.id),.p (.i s.self),.p (.i s.peer),.p (.i s.part),.a [.p (.i s.wb),.p (.i s.wc),.p (.i s.wm),.p (.i s.wt)],.p (.i 5)] (.tup [.agg (sL Z),.one (.p (.i 0))])) (c6:PCall Tryz.prog 30 [.p (.sl 10 (l.map kR) ex),.p (.i Z.part)] (Tr.tv T)) (c7:PCall Tryz.prog 30 [.p (.sl 10 (m.map kR) ey),.p (.i Z.part)] (Tr.tv U)) (c8:PCall Tryz.prog 31 [Tr.tv T,Tr.tv U] (.tup [.one (.p (.sl 1 (Wn.map iRw) false)),.one (.p (.i wn))])) (hw0:WP T U s 0 Z []) (lT:T.length=672) (lU:U.length=672),(∀ (w0:World) (F S0:Nat→Prop) (M0:Mu) (ν:Nat→Nat) (k:Nat) (c:Ses) (g:List Int) (g14:Nat) (m14:Option MO) (g18:Nat) (m18:Option MO) (β:Nat→AV) (γ:Nat→Nat × Option MO),WP T U s k c g→X w0 F S0 M0 s l ex m ey T U Wn Z ν k c g g14 m14 g18 m18 β γ)→PCall Tryz.prog 6 [sV s,.p (.sl 10 (l.map kR) ex),.p (.sl 10 (m.map kR) ey)] (.p (.b true)):=by
 apply PSigma.mk
 intro s l ex m ey T U Wn Z wn c1 c2 c3 c4 c5 c6 c7 c8 hw0 lT lU HX
 refine pcall_of Tryz.func6 rfl (fun w0 F S0 M0=>?_)
 haveI i1:PC _ _ _ True _:=⟨fun _=>c1⟩
 haveI i2:PC _ _ _ True _:=⟨fun _=>c2⟩
 haveI i3:PC _ _ _ True _:=⟨fun _=>c3⟩
 haveI i4:PC _ _ _ True _:=⟨fun _=>c4⟩
 haveI i5:PC _ _ _ True _:=⟨fun _=>c5⟩
 haveI i6:PC _ _ _ True _:=⟨fun _=>c6⟩
 haveI i7:PC _ _ _ True _:=⟨fun _=>c7⟩
 haveI i8:PC _ _ _ True _:=⟨fun _=>c8⟩
 have n0:decide ((0:Int)≠0)=false:=by decide
 have hTm:(T.map bcD).length=672:=by rw [List.length_map];exact lT
 have hUm:(U.map bcD).length=672:=by rw [List.length_map];exact lU
 clear c1 c2 c3 c4 c5 c6 c7 c8
 repeat' (first|refine jx20 ?_|refine jy0 ?_ ?_|exact spF|refine spQ fun hq hq'=>?_|refine spN fun hn=>?_|fail)
 refine rn_any (gd_n rfl rfl) rfl (lop_call6 (by rfl) inferInstance (by rfl) (by rfl) (by rfl) (by rfl) (by rfl) (by rfl) (by infer_instance) i5 True.intro (by rfl)) ?_
 repeat' (first|refine jx20 ?_|refine jy0 ?_ ?_|exact spF|refine spQ fun hq hq'=>?_|refine spN fun hn=>?_|fail)
 refine aws_draws [(8,8),(9,9),(10,8),(11,9)] mixed (by kernel_rfl) ?_
 repeat' (first|refine jx21 ?_|refine jy1 ?_ ?_|exact spF|refine spQ fun hq hq'=>?_|fail)
 repeat' (first|refine jx20 ?_|refine jy0 ?_ ?_|exact spF|refine spQ fun hq hq'=>?_|refine spN fun hn=>?_|fail)
 refine aws_says (says_nils (t:=13) (es:=1) rfl) ?_
 refine aws_says (says_inex (t:=13) rfl) ?_
 refine aws_sm [(1,.p (.sl 10 (l.map kR) ex)),(2,.p (.sl 10 (m.map kR) ey)),(3,.o (.ptr 3 0 0)),(8,.o (.ptr 8 0 0)),(9,.o (.ptr 9 0 0)),(10,.p (.sl 1 (Wn.map iRw) false)),(12,.p (.i 0)),(13,.p (.sl 1 (([]:List Int).map iRw) false))] [(3,(1,some (.box 63 (sL Z)))),(8,(1,some (.box 79 (T.map bcD)))),(9,(1,some (.box 79 (U.map bcD)))),(14,(0,none)),(18,(0,none))] (by exact knA) (by exact knA) fun ν=>?_
 refine aws_loopS (1::2::3::8::9::10::[6,12,13,14,15,16,17,18,19,20,70,71,72,73,74,75,76,77,78,79,80,81,82,83,84,85,86,87,88,89,90,91,92,93,94,95,96,97,98,99,100,101,102,103,104,105,106,107,108,109,110,111,112,113,114,115,116,117,118,119,120,121,122,123,124,125,126,127,128,129,130,131,132,133,134,135,136,137,138,139,140,141,142,143,144]) [3,14,18] (fun (x:Nat × Ses × List Int × (Nat × Option MO) × (Nat × Option MO))=>[(12,.p (.i x.1)),(13,.p (.sl 1 (x.2.2.1.map iRw) false)),(1,.p (.sl 10 (l.map kR) ex)),(2,.p (.sl 10 (m.map kR) ey)),(3,.o (.ptr 3 0 0)),(8,.o (.ptr 8 0 0)),(9,.o (.ptr 9 0 0)),(10,.p (.sl 1 (Wn.map iRw) false))]) (fun x=>[(3,(1,some (.box 63 (sL x.2.1)))),(14,x.2.2.2.1),(18,x.2.2.2.2)]) (fun x=>WP T U s x.1 x.2.1 x.2.2.1) (fun x=>3 - x.1) (0,Z,[],(0,none),(0,none)) hw0 (by exact knA) (by exact knA) ?_
 rintro ⟨k,c,g,⟨g14,m14⟩,⟨g18,m18⟩⟩ β γ hP
 exact HX w0 F S0 M0 ν k c g g14 m14 g18 m18 β γ hP
end Go.Proofs.YtkgploeegbmofaaGreat.Wi
