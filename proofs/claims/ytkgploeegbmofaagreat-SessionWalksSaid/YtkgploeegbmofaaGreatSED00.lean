/- buckets in plain Lean: when they are the same, and how many stand there -/
import Derived.Test.YtkgploeegbmofaaGreatSEA20
import Derived.Test.YtkgploeegbmofaaGreatSEA18
namespace Go.Proofs.YtkgploeegbmofaaGreat.Wi
open Go Go.RowKit Go.Aw Go.Aw.Cart Go.Proofs.YtkgploeegbmofaaGreat.Ca Go.Proofs.YtkgploeegbmofaaGreat.Rg
set_option linter.unusedVariables false
set_option linter.unusedSimpArgs false
abbrev upK (l:List Kd):Prop:=l.Pairwise fun a b=>bLt a.1 b.1=true
theorem mem_find:∀ {l:List Kd},upK l→∀ {e:Kd},e∈l→findK l e.1=(e.2,true)
 | [],_,e,he=>by cases he
 | a::l,hu,e,he=>by
  rw [findK]
  rcases List.mem_cons.1 he with q|q
  ·rw [q,if_pos rfl]
  ·have hlt:=(List.pairwise_cons.1 hu).1 e q
   rw [if_neg (fun x=>by rw [x,bLt_irr] at hlt;cases hlt)]
   exact mem_find (List.pairwise_cons.1 hu).2 q
theorem find_mem:∀ {l:List Kd} {k:List Nat} {c:Crt},findK l k=(c,true)→(k,c)∈l
 | [],k,c,h=>by cases h
 | a::l,k,c,h=>by
  rw [findK] at h
  by_cases q:a.1=k
  ·rw [if_pos q] at h
   obtain rfl:=(Prod.mk.inj h).1
   subst q
   exact List.mem_cons_self
  ·rw [if_neg q] at h
   exact List.mem_cons_of_mem _ (find_mem h)
theorem mem_iff {l:List Kd} (hu:upK l) {e:Kd}:e∈l↔findK l e.1=(e.2,true):=⟨mem_find hu,fun h=>find_mem h⟩
theorem mem_bkt {l:List Kd} (hr:keysF l=true) {part:Int} {j:Nat} (hj:j < 16) {e:Kd}:e∈(bktsF l part).getD j []↔e∈l∧emptyF e.2=false∧keyR e.1=true∧(partF e.1:Int)=part∧leafF e.1=j:=by
 unfold bktsF
 rw [if_pos hr,bkF_get _ _ hj,List.mem_filter]
 unfold stF offF inB
 rw [List.mem_filter]
 constructor
 ·rintro ⟨⟨h1,h2⟩,h3⟩
  simp only [Bool.not_or,Bool.not_not,Bool.and_eq_true,Bool.not_eq_true',decide_eq_true_iff] at h2 h3
  exact ⟨h1,h2.1,h2.2,h3.1,h3.2⟩
 ·rintro ⟨h1,h2,h3,h4,h5⟩
  refine ⟨⟨h1,?_⟩,?_⟩
  ·rw [h2,h3];rfl
  ·rw [decide_eq_true h4,decide_eq_true h5];rfl
theorem up_bkt (l:List Kd) (part:Int) (j:Nat):upK ((bktsF l part).getD j []):=by
 unfold bktsF
 by_cases hr:keysF l=true
 ·rw [if_pos hr]
  by_cases hj:j < 16
  ·rw [bkF_get _ _ hj]
   exact ((keys_iff.1 hr).up.sublist List.filter_sublist).sublist List.filter_sublist
  ·rw [List.getD_eq_getElem?_getD,List.getElem?_eq_none (by rw [bkF_len];omega)];exact .nil
 ·rw [if_neg hr,List.getD_eq_getElem?_getD,List.getElem?_replicate]
  split<;>exact .nil
/-! another cart of one key -/
/-! how many stand there -/
end Go.Proofs.YtkgploeegbmofaaGreat.Wi
