/- messages: carts of a part's places; which may be -/
import Derived.Test.YtkgploeegbmofaaGreatSEA34
namespace Go.Proofs.YtkgploeegbmofaaGreat.Wi
open Go Go.RowKit Go.Aw Go.Aw.Cart Go.Aw.Tree Go.Proofs.YtkgploeegbmofaaGreat.Ca Go.Proofs.YtkgploeegbmofaaGreat.Rg
set_option linter.unusedVariables false
set_option linter.unusedSimpArgs false
set_option maxRecDepth 8000
set_option maxHeartbeats 4000000
theorem keyLf_w (k:List Nat) (hk:okB k) (hl:k.length≤1000000):PCall Tryz.prog 114 [.p (.v (.string (strOf k)))] (.p (.i (leafF k:Int))):=by
 refine pcall_of Tryz.func114 rfl (fun w0 F S0 M0=>?_)
 have:=keyAt_w k hk hl
 haveI:PC Tryz.prog 123 [.p (.v (.string (strOf k)))] True (.tup [.one (.p (.i (partF k:Int))),.one (.p (.i (leafF k:Int)))]):=⟨fun _=>this⟩
 open B1 in
 as_aux_lemma=>
  repeat' (first|refine jx5 ?_|refine jy0 ?_ ?_|exact spF|refine spQ fun hq hq'=>?_|refine spN fun hn=>?_|fail)
  exact rt1 rfl rfl finS_p rfl
open T4
theorem within11_w (k:Kd) (p:Int) (hk:okB k.1) (hl:k.1.length≤1000000):PCall Tryz.prog 113 ([AV.p (PVal.i p)]++[PVal.bx (kR k) 0].map .p) (.p (.b (atLeaf k p))):=by
 refine pcall_of Tryz.func113 rfl (fun w0 F S0 M0=>?_)
 haveI:PC Tryz.prog 77 [.p (.i p)] True (.p (.i (leafOf p))):=⟨fun _=>Tr.leafOf_c p⟩
 haveI:PC Tryz.prog 114 [.p (.v (.string (strOf k.1)))] True (.p (.i (leafF k.1:Int))):=⟨fun _=>keyLf_w k.1 hk hl⟩
 unfold atLeaf
 as_aux_lemma=>
  repeat' (first|refine jx6 ?_|refine jy0 ?_ ?_|exact spF|refine spQ fun hq hq'=>?_|refine spN fun hn=>?_|fail)
  exact rt1 rfl rfl finS_p rfl
theorem within1_w (m:Msg) (k:Kd) (hm:m.dig.length=32) (hp:m.pls.length≤1000000000) (hk:okB k.1) (hl:k.1.length≤1000000):PCall Tryz.prog 112 ([kV k]++[PVal.bx (mR m) 0].map .p) (.p (.b (wrongK m k))):=by
 refine pcall_of Tryz.func112 rfl (fun w0 F S0 M0=>?_)
 have h32:(m.dig.map fun n:Nat=>PVal.k .u8 (n:Int)).length=32:=by rw [List.length_map];exact hm
 haveI i1:PC Tryz.prog 115 [.p (.v (.string (strOf k.1)))] True (.p (.i (partF k.1:Int))):=⟨fun _=>keyPart_w k.1 hk hl⟩
 haveI i2:PC Tryz.prog 116 [.p (.sl 1 (m.pls.map iRw) false),.p (.fnv 113 [.bx (kR k) 0])] True (.p (.b (m.pls.any (atLeaf k)))):=⟨fun _=>containsFuncN_w 113 [.bx (kR k) 0] inferInstance (atLeaf k) m.pls false hp fun p=>within11_w k p hk hl⟩
 have c1:=keyRight_w k.1 hk hl
 unfold wrongK
 generalize m.pls.any (atLeaf k)=A at i2 ⊢
 generalize keyR k.1=R at c1 ⊢
 haveI i3:PC Tryz.prog 73 [.p (.v (.string (strOf k.1)))] True (.p (.b R)):=⟨fun _=>c1⟩
 cases R with
 | false=>
  rw [Bool.not_false,Bool.true_or]
  as_aux_lemma=>
   repeat' (first|refine jx6 ?_|refine jy0 ?_ ?_|exact spF|refine spQ fun hq hq'=>?_|refine spN fun hn=>?_|fail)
   exact rt1 rfl rfl finS_p rfl
 | true=>
  rw [Bool.not_true,Bool.false_or]
  cases d1:decide ((partF k.1:Int)≠m.part) with
  | true=>
   rw [Bool.true_or]
   as_aux_lemma=>
    repeat' (first|refine jx6 ?_|refine jy0 ?_ ?_|exact spF|refine spQ fun hq hq'=>?_|refine spN fun hn=>?_|fail)
    exact rt1 rfl rfl finS_p rfl
  | false=>
   rw [Bool.false_or]
   as_aux_lemma=>
    repeat' (first|refine jx6 ?_|refine jy0 ?_ ?_|exact spF|refine spQ fun hq hq'=>?_|refine spN fun hn=>?_|fail)
    exact rt1 rfl rfl finS_p rfl
theorem within_w (m:Msg) (h:MIn m):PCall Tryz.prog 72 [mV m] (.p (.b (withinM m))):=by
 refine pcall_of Tryz.func72 rfl (fun w0 F S0 M0=>?_)
 have hm:=h.d32
 have h32:(m.dig.map fun n:Nat=>PVal.k .u8 (n:Int)).length=32:=by rw [List.length_map];exact hm
 have h32':(m.dig.map bcD).length=32:=by rw [List.length_map];exact hm
 have kl:=h.kl
 have c1:=pright_w m.kds false (by omega) h.kd (fun k hk=>by have:=h.few k hk;omega)
 have c2:keysF m.kds=true→PCall Tryz.prog 117 [.p (.sl 10 (m.kds.map kR) false),.p (.fnv 112 [.bx (mR m) 0])] (.p (.b (m.kds.any (wrongK m)))):=fun q=>
  containsFuncK_w 112 [.bx (mR m) 0] inferInstance (wrongK m) m.kds false (by omega) fun e he=>within1_w m e hm h.pl (h.kd e he).key (by have:=(keys_iff.1 q).key e he;omega)
 unfold withinM
 generalize m.kds.any (wrongK m)=A at c2 ⊢
 generalize keysF m.kds=B at c1 c2 ⊢
 haveI i1:PC Tryz.prog 28 [.p (.sl 10 (m.kds.map kR) false)] True (.p (.b B)):=⟨fun _=>c1⟩
 repeat' (first|refine jx5 ?_|refine jy0 ?_ ?_|exact spF|refine spQ fun hq hq'=>?_|refine spN fun hn=>?_|fail)
 refine rn_any (gd_n rfl rfl) rfl (lop_mf1 (ps0:=mR m) rfl rfl rfl rfl (mL_eq m) rfl) ?_
 cases B with
 | false=>
  rw [Bool.false_and]
  as_aux_lemma=>
   repeat' (first|refine jx5 ?_|refine jy0 ?_ ?_|exact spF|refine spQ fun hq hq'=>?_|refine spN fun hn=>?_|fail)
   exact rt1 rfl rfl finS_p rfl
 | true=>
  haveI i2:PC Tryz.prog 117 [.p (.sl 10 (m.kds.map kR) false),.p (.fnv 112 [.bx (mR m) 0])] True (.p (.b A)):=⟨fun _=>c2 rfl⟩
  rw [Bool.true_and]
  as_aux_lemma=>
   repeat' (first|refine jx5 ?_|refine jy0 ?_ ?_|exact spF|refine spQ fun hq hq'=>?_|refine spN fun hn=>?_|fail)
   exact rt1 rfl rfl finS_p rfl
end Go.Proofs.YtkgploeegbmofaaGreat.Wi
