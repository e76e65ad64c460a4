/- bytes as a law's argument; PackLists over what was read -/
import Derived.Test.YtpgppgehhclfoaaGreatOBB73
import Derived.Test.YtpgppgehhclfoaaGreatOBD78
import Derived.Test.YtpgppgehhclfoaaGreatOBD76
namespace Go.Proofs.YtpgppgehhclfoaaGreat.Wi
open Go Go.RowKit Go.Aw Go.Aw.Cart Go.Proofs.YtpgppgehhclfoaaGreat.Ca
set_option linter.unusedVariables false
set_option linter.unusedSimpArgs false
theorem u8_of {n:Int} (h:IntKind.u8.min≤n∧n≤IntKind.u8.max):((n.toNat:Nat):Int)=n∧n.toNat < 256:=by
 simp only [IntKind.min,IntKind.max,IntKind.signed,IntKind.bits] at h
 simp at h;omega
theorem u8s_map {β:Type} {f:Int→β} {l:List Int} (h:∀ n∈l,IntKind.u8.min≤n∧n≤IntKind.u8.max):(l.map Int.toNat).map (fun n:Nat=>f (n:Int))=l.map f:=by
 rw [List.map_map]
 exact List.map_congr_left fun n hn=>by simp only [Function.comp_apply,(u8_of (h n hn)).1]
theorem u8s_ok {l:List Int} (h:∀ n∈l,IntKind.u8.min≤n∧n≤IntKind.u8.max):okB (l.map Int.toNat):=fun n hn=>by
 obtain ⟨m,hm,rfl⟩:=List.mem_map.1 hn
 exact (u8_of (h m hm)).2
end Go.Proofs.YtpgppgehhclfoaaGreat.Wi
namespace Go.Proofs.YtpgppgehhclfoaaGreat.Wi
open Go Go.RowKit Go.Aw Go.Aw.Cart Go.Aw.Tree Go.Proofs.YtpgppgehhclfoaaGreat.Ca Go.Proofs.YtpgppgehhclfoaaGreat.Rg
set_option linter.unusedVariables false
set_option linter.unusedSimpArgs false
set_option maxRecDepth 8000
set_option maxHeartbeats 4000000
open V1
end Go.Proofs.YtpgppgehhclfoaaGreat.Wi
namespace Go.Proofs.YtpgppgehhclfoaaGreat.Wi
open Go Go.RowKit Go.Aw Go.Aw.Cart Go.Aw.Tree Go.Proofs.YtpgppgehhclfoaaGreat.Ca Go.Proofs.YtpgppgehhclfoaaGreat.Rg
set_option linter.unusedVariables false
set_option linter.unusedSimpArgs false
set_option maxRecDepth 8000
set_option maxHeartbeats 4000000
attribute [local irreducible] readM msgB rightM sameM greatM zeroM
open V1
end Go.Proofs.YtpgppgehhclfoaaGreat.Wi
namespace Go.Proofs.YtpgppgehhclfoaaGreat.Wi
open Go Go.RowKit Go.Aw Go.Aw.Cart Go.Aw.Tree Go.Proofs.YtpgppgehhclfoaaGreat.Ca Go.Proofs.YtpgppgehhclfoaaGreat.Rg
set_option linter.unusedVariables false
set_option maxRecDepth 8000
theorem rd_digP:Reads Tryz.prog 23 (List Nat) dRw (fun d=>d.length=32∧okB d):=
 (reads_array (α:=Int) (row:=fun n=>[PVal.k .u8 n]) (ok:=fun n=>IntKind.u8.min≤n∧n≤IntKind.u8.max) (inferInstance:TI Tryz.prog 23 _ _ _) (inferInstance:TI Tryz.prog 5 _ _ _) rfl (reads_int inferInstance)).imp' (fun l=>l.map Int.toNat)
  (fun l h=>by
   have e:dRw (l.map Int.toNat)=l.map fun n=>PVal.k .u8 n:=u8s_map (f:=fun n=>PVal.k .u8 n) h.2
   rw [e]
   clear h e
   induction l with
   | nil=>rfl
   | cons b l ih=>simp [ih]) (fun l h=>⟨by simpa using h.1,u8s_ok h.2⟩)
theorem rd_digsP:Reads Tryz.prog 25 (List (List Nat)) (fun l=>[.sl 32 (l.map dRw) false]) (fun l=>l.length≤maxLen∧∀ d∈l,d.length=32∧okB d):=
 reads_slice inferInstance inferInstance (by decide) rd_digP
theorem rd_intsP:Reads Tryz.prog 24 (List Int) (fun l=>[.sl 1 (l.map iRw) false]) (fun l=>l.length≤maxLen∧∀ n∈l,IntKind.i64.min≤n∧n≤IntKind.i64.max):=
 reads_slice inferInstance inferInstance (by decide) (reads_int inferInstance)
theorem lenM {α:Type} {l:List α} (h:l.length≤maxLen):l.length≤9223372036854775807:=by simpa [maxLen] using h
def mRow (m:Msg):List PVal:=[PVal.i m.kind,PVal.i m.frm,PVal.i m.to,PVal.i m.ses,PVal.i m.part]++(dRw m.dig++[.sl 1 (m.pls.map iRw) false,.sl 32 (m.dgs.map dRw) false,.sl 10 (m.kds.map kR) false])
def toM (x:Int × Int × Int × Int × Int × List Nat × List Int × List (List Nat) × List Kd × Unit):Msg:=⟨x.1,x.2.1,x.2.2.1,x.2.2.2.1,x.2.2.2.2.1,x.2.2.2.2.2.1,x.2.2.2.2.2.2.1,x.2.2.2.2.2.2.2.1,x.2.2.2.2.2.2.2.2.1⟩
theorem rd_msg:Reads Tryz.prog 28 Msg mRow MGo:=
 (reads_struct (inferInstance:TI Tryz.prog 28 _ _ _)
  (readsFs_cons (inferInstance:TI Tryz.prog 3 _ _ _) Ca.rd_int (readsFs_cons (inferInstance:TI Tryz.prog 3 _ _ _) Ca.rd_int (readsFs_cons (inferInstance:TI Tryz.prog 3 _ _ _) Ca.rd_int (readsFs_cons (inferInstance:TI Tryz.prog 3 _ _ _) Ca.rd_int (readsFs_cons (inferInstance:TI Tryz.prog 3 _ _ _) Ca.rd_int
  (readsFs_cons (inferInstance:TI Tryz.prog 23 _ _ _) rd_digP (readsFs_cons (inferInstance:TI Tryz.prog 24 _ _ _) rd_intsP (readsFs_cons (inferInstance:TI Tryz.prog 25 _ _ _) rd_digsP (readsFs_cons (inferInstance:TI Tryz.prog 26 _ _ _) rd_kds (readsFs_nil rfl))))))))))).imp'
  toM (fun x _=>rfl) (fun x h=>by
   obtain ⟨_,_,_,_,_,h6,h7,h8,h9,_⟩:=h
   exact ⟨h6.1,h6.2,lenM h7.1,lenM h8.1,h8.2,lenM h9.1,h9.2⟩)
end Go.Proofs.YtpgppgehhclfoaaGreat.Wi
