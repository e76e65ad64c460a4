/- THE ABSTRACT WALK, part 32: strings read byte by byte. Nothing here speaks of a program. -/
import Derived.Test.YtbfjcohocedoaaaKp
namespace Go.Aw
open Go Go.RowKit
set_option linter.unusedVariables false
set_option linter.unusedSimpArgs false
section ops
variable {C : Ctx} {o : Oper} {σ : St}
/-- a string's length -/
theorem lop_len_sb {T : TypeId} {x : Operand} {sz by_ : Nat} {b : List Nat} (ho : o.op = .call ⟨.builtin .len, #[x], #[T]⟩) (hT : TI C.P T .string sz by_) (hx : σ.look x = .p (.v (.string (strOf b)))) (hd : dOk C o.dst = true) :
    LOp C o σ ⟨.p (.i b.length), []⟩ (fun _ => false) := by
  have := lop_len_str (hT := hT) ho hx hd
  rwa [strOf_size] at this
/-- a string's byte -/
theorem lop_ix_sb {T : TypeId} {x ix : Operand} {sz by_ : Nat} {b : List Nat} {k : IntKind} {i : Int} (ho : o.op = .index T x ix) (hT : TI C.P T .string sz by_) (hx : σ.look x = .p (.v (.string (strOf b)))) (hb : okB b) (hi : σ.look ix = .p (.v (.int k i))) (h0 : 0 ≤ i) (h1 : i < b.length) (hd : dOk C o.dst = true) :
    LOp C o σ ⟨.p (.k .u8 (b.getD i.toNat default : Nat)), []⟩ (fun _ => false) :=
  lop_val hd fun τ a w G hl' hm' h => by
    have e1 := val_of h ((hl' x (by simp [ho, Op.operands])).trans hx)
    have e2 := val_of h ((hl' ix (by simp [ho, Op.operands])).trans hi)
    obtain ⟨d, hdd, hkk⟩ := hT.undd
    have : d = .string := by cases d <;> simp [TK.of] at hkk; rfl
    subst this
    have hlt : i.toNat < b.length := by omega
    have hbd : 0 ≤ i ∧ i < ((strOf b).size : Int) := by rw [strOf_size]; exact ⟨h0, h1⟩
    have hlt2 : i.toNat < (strOf b).size := by rw [strOf_size]; exact hlt
    have hg : (strOf b)[i.toNat] = UInt8.ofNat b[i.toNat] := by
      show ((b.map UInt8.ofNat).toArray)[i.toNat]'(by simpa using hlt) = _
      simp
    have hby : (((strOf b)[i.toNat]).toNat : Int) = ((b.getD i.toNat default : Nat) : Int) := by
      rw [hg, List.getD_eq_getElem?_getD, List.getElem?_eq_getElem hlt]
      have := hb b[i.toNat] (List.getElem_mem _)
      simp; omega
    refine ⟨.int .u8 (((strOf b)[i.toNat]).toNat : Int), ?_, by rw [hby], rfl⟩
    simp [execOp, ho, e1, e2, Instr.index, asIntOf, run_underlying hdd, h0, hlt2]
end ops
end Go.Aw
