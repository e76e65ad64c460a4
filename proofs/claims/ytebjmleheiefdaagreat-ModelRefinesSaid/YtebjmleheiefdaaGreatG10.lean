/- the model, the laws: ModelRefines: all; the model: ModelRefines' contract over what was read -/
import Derived.Test.YtebjmleheiefdaaGreatG7
import Derived.Test.YtebjmleheiefdaaGreatG8
import Derived.Test.YtebjmleheiefdaaGreatG9
import Derived.Test.YtebjmleheiefdaaGreatCbR
namespace Go.Proofs.YtebjmleheiefdaaGreat.Ca
open Go Go.RowKit Go.Aw Go.Aw.Cart Go.Aw.Ord Go.Sort
set_option linter.unusedVariables false
set_option linter.unusedSimpArgs false
set_option maxRecDepth 8000
set_option maxHeartbeats 8000000
open N2
theorem modelRefines_w (l : List Stp) (ex : Bool) (hl : l.length ≤ maxLen) (hb : ∀ s ∈ l, 0 ≤ s.2.1 ∧ s.2.1 < 256 ∧ 0 ≤ s.2.2.1 ∧ s.2.2.1 < 256) : PCall Tryz.prog 6 [.p (.sl 6 (l.map sR) ex)] (.p (.b true)) := by
  refine R9.2 l ex hl hb fun w0 F S0 M0 cf i k0 k1 k2 g8 m8 g10 m10 g11 m11 g13 m13 g87 m87 β γ hcf hi4 hinv hil hil4 => ?_
  have hsb := hb (l.getD (i : Int).toNat default) (by rw [Int.toNat_natCast, getD_at hil]; exact List.getElem_mem _)
  have hs1 : 0 ≤ (l.getD (i : Int).toNat default).2.1 := hsb.1
  have hs2 : 0 ≤ (l.getD (i : Int).toNat default).2.2.1 := hsb.2.2.1
  cases hj : (l.getD (i : Int).toNat default).1 with
  | true =>
    rcases mod3 hs1 with har | har | har <;> rcases mod3 hs2 with hfr | hfr | hfr
    · exact j00 w0 F S0 M0 l ex cf i k0 k1 k2 g8 m8 g10 m10 g11 m11 g13 m13 g87 m87 β γ hl hb hcf hi4 hinv hil hil4 har hj hfr hs1 hs2
    · exact j01 w0 F S0 M0 l ex cf i k0 k1 k2 g8 m8 g10 m10 g11 m11 g13 m13 g87 m87 β γ hl hb hcf hi4 hinv hil hil4 har hj hfr hs1 hs2
    · exact j02 w0 F S0 M0 l ex cf i k0 k1 k2 g8 m8 g10 m10 g11 m11 g13 m13 g87 m87 β γ hl hb hcf hi4 hinv hil hil4 har hj hfr hs1 hs2
    · exact j10 w0 F S0 M0 l ex cf i k0 k1 k2 g8 m8 g10 m10 g11 m11 g13 m13 g87 m87 β γ hl hb hcf hi4 hinv hil hil4 har hj hfr hs1 hs2
    · exact j11 w0 F S0 M0 l ex cf i k0 k1 k2 g8 m8 g10 m10 g11 m11 g13 m13 g87 m87 β γ hl hb hcf hi4 hinv hil hil4 har hj hfr hs1 hs2
    · exact j12 w0 F S0 M0 l ex cf i k0 k1 k2 g8 m8 g10 m10 g11 m11 g13 m13 g87 m87 β γ hl hb hcf hi4 hinv hil hil4 har hj hfr hs1 hs2
    · exact j20 w0 F S0 M0 l ex cf i k0 k1 k2 g8 m8 g10 m10 g11 m11 g13 m13 g87 m87 β γ hl hb hcf hi4 hinv hil hil4 har hj hfr hs1 hs2
    · exact j21 w0 F S0 M0 l ex cf i k0 k1 k2 g8 m8 g10 m10 g11 m11 g13 m13 g87 m87 β γ hl hb hcf hi4 hinv hil hil4 har hj hfr hs1 hs2
    · exact j22 w0 F S0 M0 l ex cf i k0 k1 k2 g8 m8 g10 m10 g11 m11 g13 m13 g87 m87 β γ hl hb hcf hi4 hinv hil hil4 har hj hfr hs1 hs2
  | false =>
    rcases mod3 hs1 with har | har | har
    · exact d0 w0 F S0 M0 l ex cf i k0 k1 k2 g8 m8 g10 m10 g11 m11 g13 m13 g87 m87 β γ hl hb hcf hi4 hinv hil hil4 har hj hs1 hs2
    · exact d1 w0 F S0 M0 l ex cf i k0 k1 k2 g8 m8 g10 m10 g11 m11 g13 m13 g87 m87 β γ hl hb hcf hi4 hinv hil hil4 har hj hs1 hs2
    · exact d2 w0 F S0 M0 l ex cf i k0 k1 k2 g8 m8 g10 m10 g11 m11 g13 m13 g87 m87 β γ hl hb hcf hi4 hinv hil hil4 har hj hs1 hs2
end Go.Proofs.YtebjmleheiefdaaGreat.Ca
namespace Go.Proofs.YtebjmleheiefdaaGreat.Ca
open Go Go.RowKit Go.Aw Go.Aw.Cart
set_option linter.unusedVariables false
set_option linter.unusedSimpArgs false
theorem u8_of {n : Int} (h : IntKind.u8.min ≤ n ∧ n ≤ IntKind.u8.max) : 0 ≤ n ∧ n < 256 := by
  simp only [IntKind.min, IntKind.max, IntKind.signed, IntKind.bits] at h
  simp at h; omega
theorem rd_u8r : Reads Tryz.prog 5 Int (fun n => [PVal.k .u8 n]) (fun n => 0 ≤ n ∧ n < 256) := (reads_int inferInstance).imp' id (fun _ _ => rfl) (fun _ h => u8_of h)
theorem rd_op9 : Reads Tryz.prog 67 Op3 (fun o => opR o) (fun _ => True) :=
  (reads_struct (inferInstance : TI Tryz.prog 67 _ _ _)
    (readsFs_cons (inferInstance : TI Tryz.prog 3 _ _ _) rd_int (readsFs_cons (inferInstance : TI Tryz.prog 3 _ _ _) rd_int (readsFs_cons (inferInstance : TI Tryz.prog 3 _ _ _) rd_int (readsFs_nil rfl))))).imp
    (fun x => (x.1, x.2.1, x.2.2.1)) (fun x => rfl) (fun x h => trivial)
theorem rd_step : Reads Tryz.prog 69 Stp (fun s => sR s) (fun s => 0 ≤ s.2.1 ∧ s.2.1 < 256 ∧ 0 ≤ s.2.2.1 ∧ s.2.2.1 < 256) :=
  (reads_struct (inferInstance : TI Tryz.prog 69 _ _ _)
    (readsFs_cons (inferInstance : TI Tryz.prog 4 _ _ _) (reads_bool inferInstance) (readsFs_cons (inferInstance : TI Tryz.prog 5 _ _ _) rd_u8r (readsFs_cons (inferInstance : TI Tryz.prog 5 _ _ _) rd_u8r (readsFs_cons (inferInstance : TI Tryz.prog 67 _ _ _) rd_op9 (readsFs_nil rfl)))))).imp
    (fun x => (x.1, x.2.1, x.2.2.1, x.2.2.2.1)) (fun x => rfl) (fun x h => ⟨h.2.1.1, h.2.1.2, h.2.2.1.1, h.2.2.1.2⟩)
theorem rd_steps : Reads Tryz.prog 56 (List Stp) (fun l => [.sl 6 (l.map fun s => sR s) false]) (fun l => l.length ≤ maxLen ∧ ∀ s ∈ l, 0 ≤ s.2.1 ∧ s.2.1 < 256 ∧ 0 ≤ s.2.2.1 ∧ s.2.2.1 < 256) :=
  reads_slice inferInstance inferInstance (by decide) rd_step
theorem modelRefines_a (l : List Stp) (h : l.length ≤ maxLen ∧ ∀ s ∈ l, 0 ≤ s.2.1 ∧ s.2.1 < 256 ∧ 0 ≤ s.2.2.1 ∧ s.2.2.1 < 256) : PCall Tryz.prog 6 [argAV false [.sl 6 (l.map fun s => sR s) false]] (.p (.b true)) := modelRefines_w l false h.1 h.2
end Go.Proofs.YtebjmleheiefdaaGreat.Ca
