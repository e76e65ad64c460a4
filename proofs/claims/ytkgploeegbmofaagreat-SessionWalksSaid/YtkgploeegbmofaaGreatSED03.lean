/- sessions, the law SessionWalks: what is refused -/
import Derived.Test.YtkgploeegbmofaaGreatSED02
namespace Go.Proofs.YtkgploeegbmofaaGreat.Wi
open Go Go.RowKit Go.Aw Go.Aw.Sha Go.Aw.Cart Go.Aw.Tree Go.Aw.Clash Go.Proofs.YtkgploeegbmofaaGreat.Ca Go.Proofs.YtkgploeegbmofaaGreat.Rg
set_option linter.unusedVariables false
set_option linter.unusedSimpArgs false
set_option maxRecDepth 8000
set_option maxHeartbeats 4000000
attribute [local irreducible] sum
open SV
theorem walks_g1 (s:Ses) (l m:List Kd) (ex ey:Bool) (ha:PCall Tryz.prog 21 [] (.p (.b true))) (c1:PCall Tryz.prog 23 [.p (.sl 10 (l.map kR) ex)] (.p (.b true))):PCall Tryz.prog 6 [sV s,.p (.sl 10 (l.map kR) ex),.p (.sl 10 (m.map kR) ey)] (.p (.b true)):=by
 refine pcall_of Tryz.func6 rfl (fun w0 F S0 M0=>?_)
 haveI i0:PC _ _ _ True _:=⟨fun _=>ha⟩
 haveI i1:PC _ _ _ True _:=⟨fun _=>c1⟩
 as_aux_lemma=>
  repeat' (first|refine jx20 ?_|refine jy0 ?_ ?_|exact spF|refine spQ fun hq hq'=>?_|refine spN fun hn=>?_|fail)
  exact rt1 rfl rfl finS_p rfl
theorem walks_g2 (s:Ses) (l m:List Kd) (ex ey:Bool) (ha:PCall Tryz.prog 21 [] (.p (.b true))) (c1:PCall Tryz.prog 23 [.p (.sl 10 (l.map kR) ex)] (.p (.b false))) (c2:PCall Tryz.prog 23 [.p (.sl 10 (m.map kR) ey)] (.p (.b true))):PCall Tryz.prog 6 [sV s,.p (.sl 10 (l.map kR) ex),.p (.sl 10 (m.map kR) ey)] (.p (.b true)):=by
 refine pcall_of Tryz.func6 rfl (fun w0 F S0 M0=>?_)
 haveI i0:PC _ _ _ True _:=⟨fun _=>ha⟩
 haveI i1:PC _ _ _ True _:=⟨fun _=>c1⟩
 haveI i2:PC _ _ _ True _:=⟨fun _=>c2⟩
 as_aux_lemma=>
  repeat' (first|refine jx20 ?_|refine jy0 ?_ ?_|exact spF|refine spQ fun hq hq'=>?_|refine spN fun hn=>?_|fail)
  exact rt1 rfl rfl finS_p rfl
theorem walks_r1 (s:Ses) (l m:List Kd) (ex ey:Bool) (ha:PCall Tryz.prog 21 [] (.p (.b true))) (c1:PCall Tryz.prog 23 [.p (.sl 10 (l.map kR) ex)] (.p (.b false))) (c2:PCall Tryz.prog 23 [.p (.sl 10 (m.map kR) ey)] (.p (.b false))) (c3:PCall Tryz.prog 28 [.p (.sl 10 (l.map kR) ex)] (.p (.b false))):PCall Tryz.prog 6 [sV s,.p (.sl 10 (l.map kR) ex),.p (.sl 10 (m.map kR) ey)] (.p (.b true)):=by
 refine pcall_of Tryz.func6 rfl (fun w0 F S0 M0=>?_)
 haveI i0:PC _ _ _ True _:=⟨fun _=>ha⟩
 haveI i1:PC _ _ _ True _:=⟨fun _=>c1⟩
 haveI i2:PC _ _ _ True _:=⟨fun _=>c2⟩
 haveI i3:PC _ _ _ True _:=⟨fun _=>c3⟩
 as_aux_lemma=>
  repeat' (first|refine jx20 ?_|refine jy0 ?_ ?_|exact spF|refine spQ fun hq hq'=>?_|refine spN fun hn=>?_|fail)
  exact rt1 rfl rfl finS_p rfl
theorem walks_r2 (s:Ses) (l m:List Kd) (ex ey:Bool) (ha:PCall Tryz.prog 21 [] (.p (.b true))) (c1:PCall Tryz.prog 23 [.p (.sl 10 (l.map kR) ex)] (.p (.b false))) (c2:PCall Tryz.prog 23 [.p (.sl 10 (m.map kR) ey)] (.p (.b false))) (c3:PCall Tryz.prog 28 [.p (.sl 10 (l.map kR) ex)] (.p (.b true))) (c4:PCall Tryz.prog 28 [.p (.sl 10 (m.map kR) ey)] (.p (.b false))):PCall Tryz.prog 6 [sV s,.p (.sl 10 (l.map kR) ex),.p (.sl 10 (m.map kR) ey)] (.p (.b true)):=by
 refine pcall_of Tryz.func6 rfl (fun w0 F S0 M0=>?_)
 haveI i0:PC _ _ _ True _:=⟨fun _=>ha⟩
 haveI i1:PC _ _ _ True _:=⟨fun _=>c1⟩
 haveI i2:PC _ _ _ True _:=⟨fun _=>c2⟩
 haveI i3:PC _ _ _ True _:=⟨fun _=>c3⟩
 haveI i4:PC _ _ _ True _:=⟨fun _=>c4⟩
 as_aux_lemma=>
  repeat' (first|refine jx20 ?_|refine jy0 ?_ ?_|exact spF|refine spQ fun hq hq'=>?_|refine spN fun hn=>?_|fail)
  exact rt1 rfl rfl finS_p rfl
theorem walks_b (s:Ses) (l m:List Kd) (ex ey:Bool) (ha:PCall Tryz.prog 21 [] (.p (.b true))) (Z:Ses) (c1:PCall Tryz.prog 23 [.p (.sl 10 (l.map kR) ex)] (.p (.b false))) (c2:PCall Tryz.prog 23 [.p (.sl 10 (m.map kR) ey)] (.p (.b false))) (c3:PCall Tryz.prog 28 [.p (.sl 10 (l.map kR) ex)] (.p (.b true))) (c4:PCall Tryz.prog 28 [.p (.sl 10 (m.map kR) ey)] (.p (.b true))) (c5:PCall Tryz.prog 29 [.p (.i s.id),.p (.i s.self),.p (.i s.peer),.p (.i s.part),.a [.p (.i s.wb),.p (.i s.wc),.p (.i s.wm),.p (.i s.wt)],.p (.i 5)] (.tup [.agg (sL Z),.one (.p (.i 1))])):PCall Tryz.prog 6 [sV s,.p (.sl 10 (l.map kR) ex),.p (.sl 10 (m.map kR) ey)] (.p (.b true)):=by
 refine pcall_of Tryz.func6 rfl (fun w0 F S0 M0=>?_)
 haveI i0:PC _ _ _ True _:=⟨fun _=>ha⟩
 haveI i1:PC _ _ _ True _:=⟨fun _=>c1⟩
 haveI i2:PC _ _ _ True _:=⟨fun _=>c2⟩
 haveI i3:PC _ _ _ True _:=⟨fun _=>c3⟩
 haveI i4:PC _ _ _ True _:=⟨fun _=>c4⟩
 haveI i5:PC _ _ _ True _:=⟨fun _=>c5⟩
 have n1:decide ((1:Int)≠0)=true:=by decide
 repeat' (first|refine jx20 ?_|refine jy0 ?_ ?_|exact spF|refine spQ fun hq hq'=>?_|refine spN fun hn=>?_|fail)
 refine rn_any (gd_n rfl rfl) rfl (lop_call6 (by rfl) inferInstance (by rfl) (by rfl) (by rfl) (by rfl) (by rfl) (by rfl) (by infer_instance) i5 True.intro (by rfl)) ?_
 as_aux_lemma=>
  repeat' (first|refine jx20 ?_|refine jy0 ?_ ?_|exact spF|refine spQ fun hq hq'=>?_|refine spN fun hn=>?_|fail)
  exact rt1 rfl rfl finS_p rfl
end Go.Proofs.YtkgploeegbmofaaGreat.Wi
