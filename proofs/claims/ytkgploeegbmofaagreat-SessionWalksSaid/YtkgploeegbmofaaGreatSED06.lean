/- sessions, the law SessionWalks: the end -/
import Derived.Test.YtkgploeegbmofaaGreatSED05
namespace Go.Proofs.YtkgploeegbmofaaGreat.Wi
open Go Go.RowKit Go.Aw Go.Aw.Sha Go.Aw.Cart Go.Aw.Tree Go.Aw.Clash Go.Proofs.YtkgploeegbmofaaGreat.Ca Go.Proofs.YtkgploeegbmofaaGreat.Rg
set_option linter.unusedVariables false
set_option linter.unusedSimpArgs false
set_option maxRecDepth 8000
set_option maxHeartbeats 4000000
attribute [local irreducible] sum
open SV
theorem walks_end (w0:World) (F S0:Nat→Prop) (M0:Mu) (s:Ses) (l:List Kd) (ex:Bool) (m:List Kd) (ey:Bool) (T U:List Nat) (Wn:List Int) (Z:Ses) (ν:Nat→Nat) (k:Nat) (c:Ses) (g:List Int) (g14:Nat) (m14:Option MO) (g18:Nat) (m18:Option MO) (β:Nat→AV) (γ:Nat→Nat × Option MO) (ha:PCall Tryz.prog 21 [] (.p (.b true))) (c9:PCall Tryz.prog 36 [Tr.tv T,Tr.tv U] (.p (.b (decide (row T 0=row U 0))))) (hP:WP T U s k c g) (r0:c.round=0) (hWn:Wn=leavesL (walkF T U).1) (lWn:Wn.length≤100) (lT:T.length=672) (lU:U.length=672):RW9.1 w0 F S0 M0 s l ex m ey T U Wn Z ν k c g g14 m14 g18 m18 β γ:=by
 refine (?_:AWs _ _ _ _)
 haveI i0:PC _ _ _ True _:=⟨fun _=>ha⟩
 haveI i9:PC _ _ _ True _:=⟨fun _=>c9⟩
 have hTm:(T.map bcD).length=672:=by rw [List.length_map];exact lT
 have hUm:(U.map bcD).length=672:=by rw [List.length_map];exact lU
 have hkk:=wp_k hP
 dsimp only
 have d0:decide (0 < c.round)=false:=decide_eq_false (by omega)
 obtain ⟨e1,e2,e3⟩:=wp_end hP r0
 rw [← hWn] at e1
 subst e1
 have d1:decide ((g.length:Int)≠(g.length:Int))=false:=decide_eq_false fun q=>q rfl
 have d2:decide (3 < (k:Int))=false:=decide_eq_false (by omega)
 have d3:decide (row T 0=row U 0)=false∨(decide (row T 0=row U 0)=true∧decide ((k:Int)≠1)=false):=by
  by_cases q:row T 0=row U 0
  ·exact .inr ⟨decide_eq_true q,decide_eq_false fun z=>z (by have:=e3 q;omega)⟩
  ·exact .inl (decide_eq_false q)
 obtain ⟨sm,hsm⟩:∃ sm,decide (row T 0=row U 0)=sm:=⟨_,rfl⟩
 rw [hsm] at i9 d3
 clear hP hsm
 rcases d3 with rfl | ⟨rfl,d3⟩
 all_goals
  repeat' (first|refine jx20 ?_|refine jy0 ?_ ?_|exact spF|refine spQ fun hq hq'=>?_|refine spN fun hn=>?_|fail)
  refine aws_loopS (1::2::3::8::9::10::12::13::[6,21,163,164,165,166,167,168,169,170,171,172,173,174,175,176,177]) [] (fun (i:Nat)=>[(21,.p (.i i)),(10,.p (.sl 1 (g.map iRw) false)),(13,.p (.sl 1 (g.map iRw) false))]) (fun _=>[]) (fun i=>i≤g.length) (fun i=>g.length - i) 0 (Nat.zero_le _) (by exact knA) (by exact knA) ?_
  intro i β2 γ2 hi
  by_cases hil:i < g.length
  ·have d4:decide ((i:Int) < (g.length:Int))=true:=decide_eq_true (by omega)
   have d5:decide (g.getD (i:Int).toNat default≠g.getD (i:Int).toNat default)=false:=decide_eq_false fun q=>q rfl
   as_aux_lemma=>
    repeat' (first|refine jx22 ?_|refine jy0 ?_ ?_|exact spF|refine spQ fun hq hq'=>?_|refine spN fun hn=>?_|fail)
    exact ⟨i+1,_,by omega,by omega,.refl,by exact frA⟩
  ·have d4:decide ((i:Int) < (g.length:Int))=false:=decide_eq_false (by omega)
   as_aux_lemma=>
    repeat' (first|refine jx20 ?_|refine jy0 ?_ ?_|exact spF|refine spQ fun hq hq'=>?_|refine spN fun hn=>?_|fail)
    exact rt1 rfl rfl finS_p rfl
end Go.Proofs.YtkgploeegbmofaaGreat.Wi
