/- carts: tallies // carts: a number's tally -/
import Derived.Test.YtbfjcohocedoaaaCa1
import Derived.Test.YtbfjcohocedoaaaKj
namespace Go.Proofs.Ytbfjcohocedoaaa.Ca
open Go Go.RowKit Go.Aw Go.Aw.Cart
set_option linter.unusedVariables false
set_option linter.unusedSimpArgs false
set_option maxRecDepth 8000
set_option maxHeartbeats 4000000
def mnF (a : Int) : Int := if 4611686018427387904 < a then 4611686018427387904 else a
def moreF (a b : Int) : Int := mnF (mnF a + mnF b)
theorem mnF_in {a : Int} (h : 0 ≤ a) : 0 ≤ mnF a ∧ mnF a ≤ 4611686018427387904 := by unfold mnF; split <;> omega
abbrev tL (t : Int × Int) : List AC := [.p (.k .u64 t.1), .p (.k .u64 t.2)]
abbrev tV (t : Int × Int) : AV := .a (tL t)
def plusF (a b : Int × Int) : Int × Int := (moreF a.1 b.1, moreF a.2 b.2)
def valF (t : Int × Int) : Int := if t.1 ≤ t.2 then 0 else t.1 - t.2
end Go.Proofs.Ytbfjcohocedoaaa.Ca
namespace Go.Proofs.Ytbfjcohocedoaaa.Ca
open Go Go.RowKit Go.Aw Go.Aw.Cart
set_option linter.unusedVariables false
set_option linter.unusedSimpArgs false
set_option maxRecDepth 8000
set_option maxHeartbeats 4000000
theorem lop_neg2 {C : Ctx} {o : Oper} {σ : St} {t : TypeId} {x : Operand} {k : IntKind} {n : Int} (ho : o.op = .unOp .neg t x) (hx : σ.look x = .p (.v (.int k n))) (hd : dOk C o.dst = true) (hw : k.wrap (0 - n) = 0 - n) : LOp C o σ ⟨.p (.v (.int k (0 - n))), []⟩ (fun _ => false) := by
  have := lop_neg ho hx hd
  rwa [hw] at this
namespace CU
theorem lopC {C : Ctx} {o : Oper} {σ : St} {e : Eff} {ro : Nat → Bool} (h : LOp C o σ e ro := by
    first
      | exact lop_neg2 rfl rfl rfl (IntWalk.i64_in _ (by omega))
      | exact lopJ
      | fail) : LOp C o σ e ro := h
section steps
variable {C : Ctx} {ops : Array Oper} {o : Oper} {rest : List Oper} {K : St → Prop} {σ : St} {e : Eff} {ro : Nat → Bool} {W : List (Nat × Nat)} {i : Nat}
theorem rnC {d : Nat} (hk : RunN C ops rest K (e.app (some d) σ)) (hg : Guard ops σ o true := by first | exact gd_n rfl rfl | exact gd_t rfl rfl rfl rfl | exact gd_t rfl rfl rfl (by assumption)) (hd : o.dst = some d := by rfl) (h : LOp C o σ e ro := by exact lopC) : RunN C ops (o :: rest) K σ := rn_any hg hd h hk
end steps
end CU
open CU
def ofT (n : Int) : Int × Int := if n < 0 then (0, 0 - (n + 1) + 1) else (n, 0)
end Go.Proofs.Ytbfjcohocedoaaa.Ca
