/- sessions, the law SessionWalks: a round without carts -/
import Derived.Test.YtkgploeegbmofaaGreatSED05
namespace Go.Proofs.YtkgploeegbmofaaGreat.Wi
open Go Go.RowKit Go.Aw Go.Aw.Sha Go.Aw.Cart Go.Aw.Tree Go.Aw.Clash Go.Proofs.YtkgploeegbmofaaGreat.Ca Go.Proofs.YtkgploeegbmofaaGreat.Rg
set_option linter.unusedVariables false
set_option linter.unusedSimpArgs false
set_option maxRecDepth 8000
set_option maxHeartbeats 4000000
attribute [local irreducible] sum
open SV
theorem walks_mid (w0:World) (F S0:Nat→Prop) (M0:Mu) (s:Ses) (l:List Kd) (ex:Bool) (m:List Kd) (ey:Bool) (T U:List Nat) (Wn:List Int) (Z:Ses) (ν:Nat→Nat) (k:Nat) (c:Ses) (g:List Int) (g14:Nat) (m14:Option MO) (g18:Nat) (m18:Option MO) (β:Nat→AV) (γ:Nat→Nat × Option MO) (M Y:Msg) (t:Ses) (N:List Kd) (s1:PCall Tryz.prog 27 [sV c,.p (.sl 10 (l.map kR) ex)] (.tup [.agg (mL M),.one (.p (.i 0))])) (p1:PCall Tryz.prog 32 [mV M] (.p (.b true))) (a1:PCall Tryz.prog 35 [.p (.sl 10 (m.map kR) ey),mV M] (mV Y)) (b1:PCall Tryz.prog 25 [sV c,.p (.sl 10 (l.map kR) ex),mV Y,.p (.i 6)] (.tup [.agg (sL t),.one (.p (.sl 10 (N.map kR) false)),.one (.p (.i 0))])) (p2:PCall Tryz.prog 20 [sV t] (.p (.b true))) (e1:M.kind=c.round) (h32:M.dig.length=32) (hy32:Y.dig.length=32) (h0:0 < c.round) (hk2:k≤2) (r3:c.round≠3) (w5:WP T U s (k+1) t g):RW9.1 w0 F S0 M0 s l ex m ey T U Wn Z ν k c g g14 m14 g18 m18 β γ:=by
 refine (?_:AWs _ _ _ _)
 haveI j1:PC _ _ _ True _:=⟨fun _=>s1⟩
 haveI j2:PC _ _ _ True _:=⟨fun _=>p1⟩
 haveI j3:PC _ _ _ True _:=⟨fun _=>a1⟩
 haveI j4:PC _ _ _ True _:=⟨fun _=>b1⟩
 haveI j5:PC _ _ _ True _:=⟨fun _=>p2⟩
 have hM32:(M.dig.map bcD).length=32:=by rw [List.length_map];exact h32
 have hY32:(Y.dig.map bcD).length=32:=by rw [List.length_map];exact hy32
 have d0:decide (0 < c.round)=true:=decide_eq_true h0
 have d1:decide ((k:Int) < 5)=true:=decide_eq_true (by omega)
 have d2:decide (M.kind≠c.round)=false:=decide_eq_false fun q=>q e1
 have n0:decide ((0:Int)≠0)=false:=by decide
 have d3:decide (M.kind=3)=false:=decide_eq_false (by omega)
 clear s1 p1 a1 b1 p2
 dsimp only
 repeat' (first|refine jx20 ?_|refine jy0 ?_ ?_|exact spF|refine spQ fun hq hq'=>?_|refine spN fun hn=>?_|fail)
 refine aws_draws [(10,18),(11,18)] mixed (by kernel_rfl) ?_
 repeat' (first|refine jx21 ?_|refine jy1 ?_ ?_|exact spF|refine spQ fun hq hq'=>?_|fail)
 as_aux_lemma=>
  repeat' (first|refine jx20 ?_|refine jy0 ?_ ?_|exact spF|refine spQ fun hq hq'=>?_|refine spN fun hn=>?_|fail)
  exact ⟨(k+1,t,g,(g14+1,some (.box 38 (mL M))),(g18+1,some (.box 63 (sL t)))),_,by dsimp only;omega,w5,.refl,by exact frA⟩
end Go.Proofs.YtkgploeegbmofaaGreat.Wi
