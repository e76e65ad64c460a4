/- joins: vectors joined; entries found; which carts clash -/
import Derived.Test.YtgiekdhipbikoaaCaQ
import Derived.Test.YtgiekdhipbikoaaKj
namespace Go.Proofs.Ytgiekdhipbikoaa.Ca
open Go Go.RowKit Go.Aw Go.Aw.Cart Go.Aw.Ord Go.Sort
set_option linter.unusedVariables false
set_option linter.unusedSimpArgs false
set_option maxRecDepth 8000
set_option maxHeartbeats 4000000
abbrev cR (v : List Int) (l : List Ent) (ex : Bool) : List PVal := [.k .u64 (v.getD 0 default), .k .u64 (v.getD 1 default), .k .u64 (v.getD 2 default), .k .u64 (v.getD 3 default), .k .u64 (v.getD 4 default), .k .u64 (v.getD 5 default), .k .u64 (v.getD 6 default), .k .u64 (v.getD 7 default), .sl 4 (l.map eR) ex]
abbrev v8L (v : List Int) : List AC := [.p (.k .u64 (v.getD 0 default)), .p (.k .u64 (v.getD 1 default)), .p (.k .u64 (v.getD 2 default)), .p (.k .u64 (v.getD 3 default)), .p (.k .u64 (v.getD 4 default)), .p (.k .u64 (v.getD 5 default)), .p (.k .u64 (v.getD 6 default)), .p (.k .u64 (v.getD 7 default))]
abbrev v8R (v : List Int) : List PVal := [.k .u64 (v.getD 0 default), .k .u64 (v.getD 1 default), .k .u64 (v.getD 2 default), .k .u64 (v.getD 3 default), .k .u64 (v.getD 4 default), .k .u64 (v.getD 5 default), .k .u64 (v.getD 6 default), .k .u64 (v.getD 7 default)]
theorem v8L_is {v : List Int} (h : v.length = 8) : (v.map fun n => AC.p (.k .u64 n)) = v8L v := by
  match v, h with
  | [a0, a1, a2, a3, a4, a5, a6, a7], _ => rfl
theorem v8R_is {v : List Int} (h : v.length = 8) : (v.map fun n => PVal.k .u64 n) = v8R v := by
  match v, h with
  | [a0, a1, a2, a3, a4, a5, a6, a7], _ => rfl
/-! vectors -/
def mxTo (a w : List Int) : Nat → List Int
  | 0 => a
  | j + 1 => (mxTo a w j).set j (if (mxTo a w j).getD j default < w.getD j default then w.getD j default else (mxTo a w j).getD j default)
theorem mxTo_len {a w : List Int} : ∀ j, (mxTo a w j).length = a.length
  | 0 => rfl
  | j + 1 => by rw [mxTo, List.length_set, mxTo_len j]
theorem mxTo_get {a w : List Int} : ∀ j k, j ≤ a.length → (mxTo a w j).getD k default = if k < j then (if a.getD k default < w.getD k default then w.getD k default else a.getD k default) else a.getD k default
  | 0, k, _ => by rw [if_neg (Nat.not_lt_zero _)]; rfl
  | j + 1, k, h => by
    have hj := mxTo_get j j (by omega) (a := a) (w := w)
    rw [if_neg (Nat.lt_irrefl _)] at hj
    have hk := mxTo_get j k (by omega) (a := a) (w := w)
    rw [mxTo, hj, List.getD_eq_getElem?_getD, List.getElem?_set, mxTo_len]
    by_cases e : j = k
    · subst e
      rw [if_pos rfl, if_pos (show j < a.length by omega), if_pos (show j < j + 1 by omega)]; rfl
    · rw [if_neg e, ← List.getD_eq_getElem?_getD, hk]
      by_cases h2 : k < j
      · rw [if_pos h2, if_pos (show k < j + 1 by omega)]
      · rw [if_neg h2, if_neg (show ¬ k < j + 1 by omega)]
theorem mxTo_max {a w : List Int} (ha : a.length = 8) (hw : w.length = 8) : mxTo a w 8 = maxV a w :=
  maxV_ext (by rw [mxTo_len, ha]) (maxV_len ha hw) fun i hi => by rw [mxTo_get 8 i (by omega), if_pos hi, maxV_get ha hw hi]
/-- any many vectors joined -/
def joinTo (l : List (List Int)) : Nat → List Int
  | 0 => zeroV
  | i + 1 => mxTo (joinTo l i) (l.getD i default) 8
theorem joinTo_len (l : List (List Int)) : ∀ i, (joinTo l i).length = 8
  | 0 => rfl
  | i + 1 => by rw [joinTo, mxTo_len, joinTo_len l i]
namespace J1
theorem lopC {C : Ctx} {o : Oper} {σ : St} {e : Eff} {ro : Nat → Bool} (h : LOp C o σ e ro := by
    first
      | (apply gField; (focus rfl); first | exact lop_fieldAddr_p rfl rfl (by decide) rfl rfl | exact lop_fieldAddr_bx rfl rfl (by decide) rfl rfl)
            | (apply lop_bsa; (focus rfl); (focus exact inferInstance); (focus exact inferInstance); (focus exact inferInstance); (focus repeat' (first | exact All2.nil | (apply bs_cons; (focus rfl); (focus rfl); (focus rfl)))); (focus rfl); (focus decide); (focus first | decide | omega); (focus rfl); (focus rfl))
            | (apply lop_mfa1; (focus rfl); (focus rfl); (focus rfl); (focus rfl); (focus rfl); (focus rfl))
            | (apply lop_mfa2; (focus rfl); (focus rfl); (focus rfl); (focus rfl); (focus rfl); (focus rfl); (focus rfl); (focus rfl); (focus rfl); (focus decide); (focus rfl))
            | (apply lop_mfa3; (focus rfl); (focus rfl); (focus rfl); (focus rfl); (focus rfl); (focus rfl); (focus rfl); (focus rfl); (focus rfl); (focus rfl); (focus rfl); (focus rfl); (focus rfl); (focus decide); (focus decide); (focus decide); (focus rfl))
            | (apply gLoad; (focus rfl); apply lop_ld_bxp; (focus rfl); (focus exact inferInstance); (focus rfl); (focus rfl); (focus rfl); (focus rfl); (focus rfl))
      | exact lopV
      | fail) : LOp C o σ e ro := h
section steps
variable {C : Ctx} {ops : Array Oper} {o : Oper} {rest : List Oper} {K : St → Prop} {σ : St} {e : Eff} {ro : Nat → Bool} {W : List (Nat × Nat)} {i : Nat}
theorem rnC {d : Nat} (hk : RunN C ops rest K (e.app (some d) σ)) (hg : Guard ops σ o true := by first | exact gd_n rfl rfl | exact gd_t rfl rfl rfl rfl | exact gd_t rfl rfl rfl (by assumption)) (hd : o.dst = some d := by rfl) (h : LOp C o σ e ro := by exact lopC) : RunN C ops (o :: rest) K σ := rn_any hg hd h hk
theorem rkC {d : Nat} (hk : RunK C ops W (i + 1) rest K (e.app (some d) σ)) (hg : Guard ops σ o true := by first | exact gd_n rfl rfl | exact gd_t rfl rfl rfl rfl | exact gd_t rfl rfl rfl (by assumption)) (hd' : o.dst = some d := by rfl) (hd : dOk C o.dst = true := by rfl) (h : LOp C o σ e ro := by exact lopC)
    (hro : ∀ x, ro x = true → okObj ops W i x = true := by first | exact fun _ => ro_none | exact ro_one rfl | exact ro_one (by kernel_rfl) | exact ro_kIn (by decide)) (hob : ∀ p ∈ e.obj, (i, p.1) ∈ W := by first | exact ob_none | exact ob_one (by decide) | decide) : RunK C ops W i (o :: rest) K σ := rk_wr hg hd' hd h hro hob hk
end steps
end J1
open J1
/-! entries -/
def idxE (d : Ent) (l : List Ent) (k : Nat) : Nat → Int
  | 0 => -1
  | n + 1 => if d = l.getD k default then k else idxE d l (k + 1) n
theorem idxE_any {d : Ent} {l : List Ent} : ∀ (n k : Nat), k + n = l.length → decide (0 ≤ idxE d l k n) = decide (d ∈ l.drop k)
  | 0, k, h => by rw [List.drop_eq_nil_of_le (by omega)]; exact decide_eq_decide.2 ⟨fun h => by rw [idxE] at h; omega, fun h => by cases h⟩
  | n + 1, k, h => by
    have hk : k < l.length := by omega
    have e : l.drop k = l.getD k default :: l.drop (k + 1) := by
      rw [List.getD_eq_getElem?_getD, List.getElem?_eq_getElem hk]; exact List.drop_eq_getElem_cons hk
    have ih := decide_eq_decide.1 (idxE_any (d := d) (l := l) n (k + 1) (by omega))
    refine decide_eq_decide.2 ?_
    rw [idxE, e, List.mem_cons]
    by_cases hp : d = l.getD k default
    · rw [if_pos hp]; exact ⟨fun _ => .inl hp, fun _ => by omega⟩
    · rw [if_neg hp, ih]; exact ⟨.inr, fun h => h.resolve_left hp⟩
/-! which clash -/
def clE (e f : Ent) : Bool := decide (e ≠ f) && decide (dotE e = dotE f)
end Go.Proofs.Ytgiekdhipbikoaa.Ca
