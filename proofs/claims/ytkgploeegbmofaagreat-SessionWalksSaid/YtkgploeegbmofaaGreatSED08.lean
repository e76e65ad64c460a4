/- sessions, the law SessionWalks: the round that gives carts -/
import Derived.Test.YtkgploeegbmofaaGreatSED05
namespace Go.Proofs.YtkgploeegbmofaaGreat.Wi
open Go Go.RowKit Go.Aw Go.Aw.Sha Go.Aw.Cart Go.Aw.Tree Go.Aw.Clash Go.Proofs.YtkgploeegbmofaaGreat.Ca Go.Proofs.YtkgploeegbmofaaGreat.Rg
set_option linter.unusedVariables false
set_option linter.unusedSimpArgs false
set_option maxRecDepth 8000
set_option maxHeartbeats 4000000
attribute [local irreducible] sum
open SV
theorem walks_give (w0:World) (F S0:Nat→Prop) (M0:Mu) (s:Ses) (l:List Kd) (ex:Bool) (m:List Kd) (ey:Bool) (T U:List Nat) (Wn:List Int) (Z:Ses) (ν:Nat→Nat) (k:Nat) (c:Ses) (g:List Int) (g14:Nat) (m14:Option MO) (g18:Nat) (m18:Option MO) (β:Nat→AV) (γ:Nat→Nat × Option MO) (M Y:Msg) (t:Ses) (N:List Kd) (s1:PCall Tryz.prog 27 [sV c,.p (.sl 10 (l.map kR) ex)] (.tup [.agg (mL M),.one (.p (.i 0))])) (p1:PCall Tryz.prog 32 [mV M] (.p (.b true))) (a1:PCall Tryz.prog 35 [.p (.sl 10 (m.map kR) ey),mV M] (mV Y)) (b1:PCall Tryz.prog 25 [sV c,.p (.sl 10 (l.map kR) ex),mV Y,.p (.i 6)] (.tup [.agg (sL t),.one (.p (.sl 10 (N.map kR) false)),.one (.p (.i 0))])) (p2:PCall Tryz.prog 20 [sV t] (.p (.b true))) (e1:M.kind=c.round) (h32:M.dig.length=32) (hy32:Y.dig.length=32) (h0:0 < c.round) (hk2:k≤2) (G:List Int) (r3:c.round=3) (w5:WP T U s (k+1) t G) (hcp:c.part=s.part) (hln:G.length≤16) (h30:l.length≤30) (q1:PCall Tryz.prog 33 [.p (.sl 1 (M.pls.map iRw) false)] (.p (.sl 1 (G.map iRw) false))) (hco:∀ n:Int,PCall Tryz.prog 34 [.p (.sl 10 (l.map kR) ex),.p (.i c.part),.p (.i n)] (.p (.sl 10 ((ofF' l s.part n).map kR) false))) (hcl:∀ i:Nat,i < G.length→(cartsTo l s.part (G.take (i+1))).length=(cartsTo l s.part (G.take i)).length+(ofF' l s.part (G.getD i default)).length) (hof:∀ n:Int,(ofF' l s.part n).length≤l.length) (e3:M.kds=cartsTo l s.part G) (hkl:M.kds.length≤100000):RW9.1 w0 F S0 M0 s l ex m ey T U Wn Z ν k c g g14 m14 g18 m18 β γ:=by
 refine (?_:AWs _ _ _ _)
 haveI j1:PC _ _ _ True _:=⟨fun _=>s1⟩
 haveI j2:PC _ _ _ True _:=⟨fun _=>p1⟩
 haveI j3:PC _ _ _ True _:=⟨fun _=>a1⟩
 haveI j4:PC _ _ _ True _:=⟨fun _=>b1⟩
 haveI j5:PC _ _ _ True _:=⟨fun _=>p2⟩
 have hM32:(M.dig.map bcD).length=32:=by rw [List.length_map];exact h32
 have hY32:(Y.dig.map bcD).length=32:=by rw [List.length_map];exact hy32
 have d0:decide (0 < c.round)=true:=decide_eq_true h0
 have d1:decide ((k:Int) < 5)=true:=decide_eq_true (by omega)
 have d2:decide (M.kind≠c.round)=false:=decide_eq_false fun q=>q e1
 have n0:decide ((0:Int)≠0)=false:=by decide
 have d3:decide (M.kind=3)=true:=decide_eq_true (by omega)
 haveI j6:PC _ _ _ True _:=⟨fun _=>q1⟩
 haveI j7:∀ n:Int,PC Tryz.prog 34 [.p (.sl 10 (l.map kR) ex),.p (.i c.part),.p (.i n)] True (.p (.sl 10 ((ofF' l s.part n).map kR) false)):=fun n=>⟨fun _=>hco n⟩
 clear s1 p1 a1 b1 p2 q1 hco
 dsimp only
 repeat' (first|refine jx20 ?_|refine jy0 ?_ ?_|exact spF|refine spQ fun hq hq'=>?_|refine spN fun hn=>?_|fail)
 refine aws_loopS (1::2::3::8::9::10::12::13::14::[16,17,105,106,107,108,109,110,111,112,113,114,115,116,117,118,119,120,121]) [] (fun (i:Nat)=>[(17,.p (.i i)),(16,.p (.i ((cartsTo l s.part (G.take i)).length:Int))),(1,.p (.sl 10 (l.map kR) ex)),(2,.p (.sl 10 (m.map kR) ey)),(3,.o (.ptr 3 0 0)),(8,.o (.ptr 8 0 0)),(9,.o (.ptr 9 0 0)),(10,.p (.sl 1 (Wn.map iRw) false)),(12,.p (.i ((k:Int)+1))),(13,.p (.sl 1 (G.map iRw) false)),(14,.o (.ptr 14 g14 0))]) (fun _=>[]) (fun i=>i≤G.length∧(cartsTo l s.part (G.take i)).length≤30 * i) (fun i=>G.length - i) 0 ⟨Nat.zero_le _,Nat.zero_le _⟩ (by exact knA) (by exact knA) ?_
 rintro i β2 γ2 ⟨hi,hi2⟩
 by_cases hil:i < G.length
 ·have d4:decide ((i:Int) < (G.length:Int))=true:=decide_eq_true (by omega)
  have hst:=hcl i hil
  have hfw:=hof (G.getD i default)
  rw [show G.getD i default=G.getD (i:Int).toNat default by rw [Int.toNat_natCast]] at hst hfw
  generalize cartsTo l s.part (G.take (i+1))=C1 at hst
  as_aux_lemma=>
   repeat' (first|refine jx22 ?_|refine jy0 ?_ ?_|exact spF|refine spQ fun hq hq'=>?_|refine spN fun hn=>?_|fail)
   refine ⟨i+1,_,by omega,⟨by omega,?_⟩,.refl,?_⟩
   ·have:=hcl i hil
    have:=hof (G.getD i default)
    omega
   ·rw [hcl i hil,show G.getD i default=G.getD (i:Int).toNat default by rw [Int.toNat_natCast],Int.natCast_add]
    exact frA
 ·have d4:decide ((i:Int) < (G.length:Int))=false:=decide_eq_false (by omega)
  obtain rfl:i=G.length:=by omega
  rw [List.take_length]
  have d5:decide (((cartsTo l s.part G).length:Int)≠(M.kds.length:Int))=false:=decide_eq_false fun q=>q (by rw [e3])
  repeat' (first|refine jx20 ?_|refine jy0 ?_ ?_|exact spF|refine spQ fun hq hq'=>?_|refine spN fun hn=>?_|fail)
  refine aws_draws [(10,18),(11,18)] mixed (by kernel_rfl) ?_
  repeat' (first|refine jx21 ?_|refine jy1 ?_ ?_|exact spF|refine spQ fun hq hq'=>?_|fail)
  as_aux_lemma=>
   repeat' (first|refine jx20 ?_|refine jy0 ?_ ?_|exact spF|refine spQ fun hq hq'=>?_|refine spN fun hn=>?_|fail)
   exact ⟨(k+1,t,G,(g14+1,some (.box 38 (mL M))),(g18+1,some (.box 63 (sL t)))),_,by dsimp only;omega,w5,.refl,by exact frA⟩
end Go.Proofs.YtkgploeegbmofaaGreat.Wi
