/- dots: as bytes, and out of bytes -/
import Derived.Test.YtgiekdhipbikoaaGreatCd4
import Derived.Test.YtgiekdhipbikoaaGreatCw4
import Derived.Test.YtgiekdhipbikoaaGreatCa4
namespace Go.Proofs.YtgiekdhipbikoaaGreat.Ca
open Go Go.RowKit Go.Aw Go.Aw.Cart Go.Proofs.YtgiekdhipbikoaaGreat.Wi
set_option linter.unusedVariables false
set_option linter.unusedSimpArgs false
set_option maxRecDepth 8000
set_option maxHeartbeats 4000000
def dotB (d : Dot) : List Nat := numB d.1.toNat ++ numB d.2.toNat
theorem numB_len (x : Nat) : (numB x).length ≤ 9 := by
  have := beF_le 8 x
  unfold numB be
  rw [List.length_cons]; omega
theorem dotB_len (d : Dot) : (dotB d).length ≤ 18 := by
  have h1 := numB_len d.1.toNat
  have h2 := numB_len d.2.toNat
  unfold dotB
  rw [List.length_append]; omega
def dotsB (l : List Dot) : List Nat := numB l.length ++ l.flatMap dotB
namespace D6
theorem lopC {C : Ctx} {o : Oper} {σ : St} {e : Eff} {ro : Nat → Bool} (h : LOp C o σ e ro := by
    first
      | exact W4.lopC
      | (apply lop_ap_pair; (focus rfl); (focus exact inferInstance); (focus exact inferInstance); (focus exact inferInstance); (focus rfl); (focus rfl); (focus rfl); (focus rfl); (focus rfl); (focus rfl); (focus first | (simp only [maxLen, List.length_append, List.length_cons, List.length_nil, List.length_take, List.length_drop, List.length_map]; omega) | omega); (focus first | (simp only [maxLen, List.length_append, List.length_cons, List.length_nil, List.length_take, List.length_drop, List.length_map]; omega) | omega); (focus rfl))
      | exact lopY
      | fail) : LOp C o σ e ro := h
section steps
variable {C : Ctx} {ops : Array Oper} {o : Oper} {rest : List Oper} {K : St → Prop} {σ : St} {e : Eff} {ro : Nat → Bool} {W : List (Nat × Nat)} {i : Nat}
theorem rnC {d : Nat} (hk : RunN C ops rest K (e.app (some d) σ)) (hg : Guard ops σ o true := by first | exact gd_n rfl rfl | exact gd_t rfl rfl rfl rfl | exact gd_t rfl rfl rfl (by assumption)) (hd : o.dst = some d := by rfl) (h : LOp C o σ e ro := by exact lopC) : RunN C ops (o :: rest) K σ := rn_any hg hd h hk
theorem rkC {d : Nat} (hk : RunK C ops W (i + 1) rest K (e.app (some d) σ)) (hg : Guard ops σ o true := by first | exact gd_n rfl rfl | exact gd_t rfl rfl rfl rfl | exact gd_t rfl rfl rfl (by assumption)) (hd' : o.dst = some d := by rfl) (hd : dOk C o.dst = true := by rfl) (h : LOp C o σ e ro := by exact lopC)
    (hro : ∀ x, ro x = true → okObj ops W i x = true := by first | exact fun _ => ro_none | exact ro_one rfl | exact ro_k1 rfl | exact ro_one (by kernel_rfl) | exact ro_k1 (by kernel_rfl) | exact ro_kIn (by decide)) (hob : ∀ p ∈ e.obj, (i, p.1) ∈ W := by first | exact ob_none | exact ob_one (by decide) | decide) : RunK C ops W i (o :: rest) K σ := rk_wr hg hd' hd h hro hob hk
end steps
end D6
open D6
/-- a dot that Go can hold -/
def DQ (d : Dot) : Prop := d.1 ≤ 9223372036854775807 ∧ 0 ≤ d.2 ∧ d.2 < 18446744073709551616
/-! out of bytes -/
def takeR1 (r : RS) : RS := mustS (dotF ((smallS 8 r).1, ((numS (smallS 8 r).2).1 : Int))) (numS (smallS 8 r).2).2
def takeD (r : RS) : Dot × RS := (if (takeR1 r).2 = 0 then ((smallS 8 r).1, ((numS (smallS 8 r).2).1 : Int)) else (0, 0), takeR1 r)
theorem small_byte {most : Int} {r : RS} (h : ∀ b ∈ r.1, b < 256) : ∀ b ∈ (smallS most r).2.1, b < 256 := by
  unfold smallS
  dsimp only
  rw [must_1]; exact numS_byte h
theorem small_len {most : Int} (r : RS) : (smallS most r).2.1.length ≤ r.1.length := by
  unfold smallS
  dsimp only
  rw [must_1]; exact numS_len r
theorem takeD_byte {r : RS} (h : ∀ b ∈ r.1, b < 256) : ∀ b ∈ (takeD r).2.1, b < 256 := by
  unfold takeD takeR1
  dsimp only
  rw [must_1]; exact numS_byte (small_byte h)
theorem takeD_len (r : RS) : (takeD r).2.1.length ≤ r.1.length := by
  unfold takeD takeR1
  dsimp only
  rw [must_1]
  exact Nat.le_trans (numS_len _) (small_len r)
/-- dots, as long as there is no fault -/
def tkTo : Nat → List Dot × RS → List Dot × RS
  | 0, x => x
  | n + 1, x => if x.2.2 = 0 then tkTo n (x.1 ++ [(takeD x.2).1], (takeD x.2).2) else x
def tkAll (r : RS) : List Dot × RS := tkTo (smallS 2000 r).1.toNat ([], (smallS 2000 r).2)
def takesD (r : RS) : List Dot × RS := (if (mustS (dRightF (tkAll r).1) (tkAll r).2).2 = 0 then (tkAll r).1 else [], mustS (dRightF (tkAll r).1) (tkAll r).2)
theorem small_in {most : Int} {r : RS} (h0 : 0 ≤ most) : 0 ≤ (smallS most r).1 ∧ (smallS most r).1 ≤ most := by
  unfold smallS
  dsimp only
  split
  · rename_i hz
    refine ⟨by omega, ?_⟩
    unfold mustS at hz
    split at hz
    · cases hz
    · rename_i k
      by_cases q : ((numS r).1 : Int) ≤ most
      · exact q
      · have hn : (numS r).2.2 ≠ 0 := fun e => k ⟨e, by rw [decide_eq_false q, Bool.and_false]⟩
        exact absurd hz hn
  · omega
end Go.Proofs.YtgiekdhipbikoaaGreat.Ca
