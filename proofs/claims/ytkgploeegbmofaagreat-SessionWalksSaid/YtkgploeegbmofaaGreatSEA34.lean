/- messages: which may be, plainly -/
import Derived.Test.YtkgploeegbmofaaGreatSEA33
namespace Go.Proofs.YtkgploeegbmofaaGreat.Wi
open Go Go.RowKit Go.Aw Go.Aw.Cart Go.Aw.Tree Go.Proofs.YtkgploeegbmofaaGreat.Ca Go.Proofs.YtkgploeegbmofaaGreat.Rg
set_option linter.unusedVariables false
set_option linter.unusedSimpArgs false
set_option maxRecDepth 8000
set_option maxHeartbeats 4000000
def atLeaf (k:Kd) (p:Int):Bool:=decide (leafOf p=(leafF k.1:Int))
def wrongK (m:Msg) (k:Kd):Bool:=!keyR k.1||(decide ((partF k.1:Int)≠m.part)||!(m.pls.any (atLeaf k)))
def withinM (m:Msg):Bool:=keysF m.kds&&!(m.kds.any (wrongK m))
def bodyM (m:Msg):Bool:=
 if m.kind=1∨m.kind=4 then true
 else if m.kind=2 then lvlF m.pls 1
 else if m.kind=3∨m.kind=6 then lvlF m.pls 2&&withinM m
 else if m.kind=5 then (lvlF m.pls 0||lvlF m.pls 1)&&decide ((m.dgs.length:Int)=4 * m.pls.length)
 else if m.kind=7 then decide ((m.kds.length:Int)=1)&&(keysF m.kds&&keyR (m.kds.getD 0 default).1)
 else false
def rightM (m:Msg):Bool:=bodyM m&&((decide (m.kind=7)||sesF m.ses m.part)&&(decide (1≤m.frm∧m.frm≤8)&&(decide (1≤m.to∧m.to≤8)&&(decide (m.frm≠m.to)&&sameM m (ownM m)))))
end Go.Proofs.YtkgploeegbmofaaGreat.Wi
