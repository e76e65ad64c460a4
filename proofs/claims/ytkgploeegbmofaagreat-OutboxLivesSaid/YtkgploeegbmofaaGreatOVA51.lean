/- outbox: reading ops; OutboxLives over what was read -/
import Derived.Test.YtkgploeegbmofaaGreatOVA22
import Derived.Test.YtkgploeegbmofaaGreatOVA50
namespace Go.Proofs.YtkgploeegbmofaaGreat.Wi
open Go Go.RowKit Go.Aw Go.Aw.Cart Go.Aw.Tree Go.Proofs.YtkgploeegbmofaaGreat.Ca Go.Proofs.YtkgploeegbmofaaGreat.Rg
set_option linter.unusedVariables false
set_option maxRecDepth 8000
theorem rd_errno:Reads Tryz.prog 39 Int (fun n=>[PVal.i n]) (fun n=>IntKind.i64.min≤n∧n≤IntKind.i64.max):=reads_int inferInstance
theorem rd_ans:Reads Tryz.prog 41 Ans aR (fun a=>a.2.2.length≤maxLen):=
 (reads_struct (inferInstance:TI Tryz.prog 41 _ _ _)
  (readsFs_cons (inferInstance:TI Tryz.prog 3 _ _ _) Ca.rd_int (readsFs_cons (inferInstance:TI Tryz.prog 39 _ _ _) rd_errno (readsFs_cons (inferInstance:TI Tryz.prog 29 _ _ _) rd_intsP (readsFs_nil rfl))))).imp'
  (fun x=>(x.1,x.2.1,x.2.2.1)) (fun x _=>rfl) (fun x h=>by obtain ⟨_,_,h3,_⟩:=h;exact h3.1)
theorem rd_obp:Reads Tryz.prog 43 Obp obR OGo:=
 (reads_struct (inferInstance:TI Tryz.prog 43 _ _ _)
  (readsFs_cons (inferInstance:TI Tryz.prog 3 _ _ _) Ca.rd_int (readsFs_cons (inferInstance:TI Tryz.prog 3 _ _ _) Ca.rd_int (readsFs_cons (inferInstance:TI Tryz.prog 38 _ _ _) rd_msg (readsFs_cons (inferInstance:TI Tryz.prog 41 _ _ _) rd_ans (readsFs_nil rfl)))))).imp'
  (fun x=>⟨x.1,x.2.1,x.2.2.1,x.2.2.2.1⟩) (fun x _=>by
   show PVal.i x.1::PVal.i x.2.1::(mRow x.2.2.1++aR x.2.2.2.1)=[PVal.i x.1]++([PVal.i x.2.1]++(mRow x.2.2.1++(aR x.2.2.2.1++[])))
   rw [List.append_nil];rfl) (fun x h=>by
   obtain ⟨_,_,h3,h4,_⟩:=h
   exact ⟨h3,lenM h4⟩)
theorem rd_obs:Reads Tryz.prog 22 (List Obp) (fun l=>[.sl 45 (l.map obR) false]) (fun l=>l.length≤maxLen∧∀ o∈l,OGo o):=reads_slice inferInstance inferInstance (by decide) rd_obp
theorem outboxLives_a (l:List Obp) (h:l.length≤maxLen∧∀ o∈l,OGo o):PCall Tryz.prog 3 [argAV false [.sl 45 (l.map obR) false]] (.p (.b true)):=outboxLives_w l (lenM h.1) h.2
end Go.Proofs.YtkgploeegbmofaaGreat.Wi
