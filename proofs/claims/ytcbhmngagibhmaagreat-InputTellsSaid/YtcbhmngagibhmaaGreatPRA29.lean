/- messages: carts of a part's places; which may be -/
import Derived.Test.YtcbhmngagibhmaaGreatPRA23
namespace Go.Proofs.YtcbhmngagibhmaaGreat.Wi
open Go Go.RowKit Go.Aw Go.Aw.Cart Go.Aw.Tree Go.Proofs.YtcbhmngagibhmaaGreat.Ca Go.Proofs.YtcbhmngagibhmaaGreat.Rg
set_option linter.unusedVariables false
set_option linter.unusedSimpArgs false
set_option maxRecDepth 8000
set_option maxHeartbeats 4000000
theorem keyLf_w (k:List Nat) (hk:okB k) (hl:k.length≤1000000):PCall Tryz.prog 152 [.p (.v (.string (strOf k)))] (.p (.i (leafF k:Int))):=by
 refine pcall_of Tryz.func152 rfl (fun w0 F S0 M0=>?_)
 have:=keyAt_w k hk hl
 haveI:PC Tryz.prog 184 [.p (.v (.string (strOf k)))] True (.tup [.one (.p (.i (partF k:Int))),.one (.p (.i (leafF k:Int)))]):=⟨fun _=>this⟩
 open B1 in
 as_aux_lemma=>
  repeat' (first|refine jx5 ?_|refine jy0 ?_ ?_|exact spF|refine spQ fun hq hq'=>?_|refine spN fun hn=>?_|fail)
  exact rt1 rfl rfl finS_p rfl
open T4
theorem within11_w (k:Kd) (p:Int) (hk:okB k.1) (hl:k.1.length≤1000000):PCall Tryz.prog 151 ([AV.p (PVal.i p)]++[PVal.bx (kR k) 0].map .p) (.p (.b (atLeaf k p))):=by
 refine pcall_of Tryz.func151 rfl (fun w0 F S0 M0=>?_)
 haveI:PC Tryz.prog 138 [.p (.i p)] True (.p (.i (leafOf p))):=⟨fun _=>Tr.leafOf_c p⟩
 haveI:PC Tryz.prog 152 [.p (.v (.string (strOf k.1)))] True (.p (.i (leafF k.1:Int))):=⟨fun _=>keyLf_w k.1 hk hl⟩
 unfold atLeaf
 as_aux_lemma=>
  repeat' (first|refine jx6 ?_|refine jy0 ?_ ?_|exact spF|refine spQ fun hq hq'=>?_|refine spN fun hn=>?_|fail)
  exact rt1 rfl rfl finS_p rfl
theorem within1_w (m:Msg) (k:Kd) (hm:m.dig.length=32) (hp:m.pls.length≤1000000000) (hk:okB k.1) (hl:k.1.length≤1000000):PCall Tryz.prog 150 ([kV k]++[PVal.bx (mR m) 0].map .p) (.p (.b (wrongK m k))):=by
 refine pcall_of Tryz.func150 rfl (fun w0 F S0 M0=>?_)
 have h32:(m.dig.map fun n:Nat=>PVal.k .u8 (n:Int)).length=32:=by rw [List.length_map];exact hm
 haveI i1:PC Tryz.prog 153 [.p (.v (.string (strOf k.1)))] True (.p (.i (partF k.1:Int))):=⟨fun _=>keyPart_w k.1 hk hl⟩
 haveI i2:PC Tryz.prog 154 [.p (.sl 1 (m.pls.map iRw) false),.p (.fnv 151 [.bx (kR k) 0])] True (.p (.b (m.pls.any (atLeaf k)))):=⟨fun _=>containsFuncN_w 151 [.bx (kR k) 0] inferInstance (atLeaf k) m.pls false hp fun p=>within11_w k p hk hl⟩
 have c1:=keyRight_w k.1 hk hl
 unfold wrongK
 generalize m.pls.any (atLeaf k)=A at i2 ⊢
 generalize keyR k.1=R at c1 ⊢
 haveI i3:PC Tryz.prog 77 [.p (.v (.string (strOf k.1)))] True (.p (.b R)):=⟨fun _=>c1⟩
 cases R with
 | false=>
  rw [Bool.not_false,Bool.true_or]
  as_aux_lemma=>
   repeat' (first|refine jx6 ?_|refine jy0 ?_ ?_|exact spF|refine spQ fun hq hq'=>?_|refine spN fun hn=>?_|fail)
   exact rt1 rfl rfl finS_p rfl
 | true=>
  rw [Bool.not_true,Bool.false_or]
  cases d1:decide ((partF k.1:Int)≠m.part) with
  | true=>
   rw [Bool.true_or]
   as_aux_lemma=>
    repeat' (first|refine jx6 ?_|refine jy0 ?_ ?_|exact spF|refine spQ fun hq hq'=>?_|refine spN fun hn=>?_|fail)
    exact rt1 rfl rfl finS_p rfl
  | false=>
   rw [Bool.false_or]
   as_aux_lemma=>
    repeat' (first|refine jx6 ?_|refine jy0 ?_ ?_|exact spF|refine spQ fun hq hq'=>?_|refine spN fun hn=>?_|fail)
    exact rt1 rfl rfl finS_p rfl
theorem within_w (m:Msg) (h:MIn m):PCall Tryz.prog 76 [mV m] (.p (.b (withinM m))):=by
 refine pcall_of Tryz.func76 rfl (fun w0 F S0 M0=>?_)
 have hm:=h.d32
 have h32:(m.dig.map fun n:Nat=>PVal.k .u8 (n:Int)).length=32:=by rw [List.length_map];exact hm
 have h32':(m.dig.map bcD).length=32:=by rw [List.length_map];exact hm
 have kl:=h.kl
 have c1:=pright_w m.kds false (by omega) h.kd (fun k hk=>by have:=h.few k hk;omega)
 have c2:keysF m.kds=true→PCall Tryz.prog 155 [.p (.sl 10 (m.kds.map kR) false),.p (.fnv 150 [.bx (mR m) 0])] (.p (.b (m.kds.any (wrongK m)))):=fun q=>
  containsFuncK_w 150 [.bx (mR m) 0] inferInstance (wrongK m) m.kds false (by omega) fun e he=>within1_w m e hm h.pl (h.kd e he).key (by have:=(keys_iff.1 q).key e he;omega)
 unfold withinM
 generalize m.kds.any (wrongK m)=A at c2 ⊢
 generalize keysF m.kds=B at c1 c2 ⊢
 haveI i1:PC Tryz.prog 52 [.p (.sl 10 (m.kds.map kR) false)] True (.p (.b B)):=⟨fun _=>c1⟩
 repeat' (first|refine jx5 ?_|refine jy0 ?_ ?_|exact spF|refine spQ fun hq hq'=>?_|refine spN fun hn=>?_|fail)
 refine rn_any (gd_n rfl rfl) rfl (lop_mf1 (ps0:=mR m) rfl rfl rfl rfl (mL_eq m) rfl) ?_
 cases B with
 | false=>
  rw [Bool.false_and]
  as_aux_lemma=>
   repeat' (first|refine jx5 ?_|refine jy0 ?_ ?_|exact spF|refine spQ fun hq hq'=>?_|refine spN fun hn=>?_|fail)
   exact rt1 rfl rfl finS_p rfl
 | true=>
  haveI i2:PC Tryz.prog 155 [.p (.sl 10 (m.kds.map kR) false),.p (.fnv 150 [.bx (mR m) 0])] True (.p (.b A)):=⟨fun _=>c2 rfl⟩
  rw [Bool.true_and]
  as_aux_lemma=>
   repeat' (first|refine jx5 ?_|refine jy0 ?_ ?_|exact spF|refine spQ fun hq hq'=>?_|refine spN fun hn=>?_|fail)
   exact rt1 rfl rfl finS_p rfl
end Go.Proofs.YtcbhmngagibhmaaGreat.Wi
