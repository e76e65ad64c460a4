/- carts: sorting entries and dots -/
import Derived.Test.YtbfjcohocedoaaaCa1
import Derived.Test.YtbfjcohocedoaaaKs
import Derived.Test.YtbfjcohocedoaaaLy
namespace Go.Proofs.Ytbfjcohocedoaaa.Ca
open Go Go.RowKit Go.Aw Go.Aw.Cart Go.Sort
set_option linter.unusedVariables false
set_option linter.unusedSimpArgs false
set_option maxRecDepth 8000
set_option maxHeartbeats 4000000
def encE (e : Ent) : List Value := [.int .i64 e.1, .int .i64 e.2.1, .int .u64 e.2.2.1, .int .i64 e.2.2.2]
def encD (d : Dot) : List Value := [.int .i64 d.1, .int .u64 d.2]
instance {a b : Ent} : Decidable (ltE a b) := by unfold ltE; infer_instance
instance {a b : Dot} : Decidable (ltD a b) := by unfold ltD; infer_instance
theorem ltE_of {x y : Ent} : ltOf ordE x y = decide (ltE x y) := decide_eq_decide.2 ordE_lt
theorem ltD_of {x y : Dot} : ltOf cmpD x y = decide (ltD x y) := decide_eq_decide.2 cmpD_lt
theorem swoE : SWO (ltOf ordE) where
  irrefl x := by rw [ltE_of]; exact decide_eq_false (by unfold ltE; omega)
  trans x y z h1 h2 := by
    rw [ltE_of] at *
    have k1 := of_decide_eq_true h1
    have k2 := of_decide_eq_true h2
    refine decide_eq_true ?_
    unfold ltE at *; omega
  ntrans x y z h1 h2 := by
    rw [ltE_of] at *
    have k1 := of_decide_eq_false h1
    have k2 := of_decide_eq_false h2
    refine decide_eq_false ?_
    unfold ltE at *; omega
theorem swoD : SWO (ltOf cmpD) where
  irrefl x := by rw [ltD_of]; exact decide_eq_false (by unfold ltD; omega)
  trans x y z h1 h2 := by
    rw [ltD_of] at *
    have k1 := of_decide_eq_true h1
    have k2 := of_decide_eq_true h2
    refine decide_eq_true ?_
    unfold ltD at *; omega
  ntrans x y z h1 h2 := by
    rw [ltD_of] at *
    have k1 := of_decide_eq_false h1
    have k2 := of_decide_eq_false h2
    refine decide_eq_false ?_
    unfold ltD at *; omega
theorem totE (x y : Ent) (h1 : ltOf ordE x y = false) (h2 : ltOf ordE y x = false) : x = y := by
  rw [ltE_of] at *
  have k1 := of_decide_eq_false h1
  have k2 := of_decide_eq_false h2
  obtain ⟨a, b, c, d⟩ := x
  obtain ⟨a', b', c', d'⟩ := y
  unfold ltE at *
  simp only at k1 k2
  simp only [Prod.mk.injEq]; omega
theorem totD (x y : Dot) (h1 : ltOf cmpD x y = false) (h2 : ltOf cmpD y x = false) : x = y := by
  rw [ltD_of] at *
  have k1 := of_decide_eq_false h1
  have k2 := of_decide_eq_false h2
  obtain ⟨a, b⟩ := x
  obtain ⟨a', b'⟩ := y
  unfold ltD at *
  simp only at k1 k2
  simp only [Prod.mk.injEq]; omega
/-- entries in order; dots in order -/
def sortE (l : List Ent) : List Ent := l.mergeSort fun x y => !(ltOf ordE) y x
def sortD (l : List Dot) : List Dot := l.mergeSort fun x y => !(ltOf cmpD) y x
theorem sortD_o (n : Nat) (l : List Dot) (h : l.length ≤ 1000000000) : OCall Try.prog 84 [.o (.osl 1000 n 2 0 l.length), .p (.v (.func (.func 85) #[] #[]))] (memL [(1000, (n + 1, some (.buf 83 2 (l.map dR))))]) (.tup []) (memL [(1000, (n + 1, some (.buf 83 2 ((sortD l).map dR))))]) :=
  sort_o (ρ := Try.lay84_ren) Try.lay84 2 (by decide) (TI.run_isAgg (inferInstance : TI Try.prog 83 _ _ _)) (TI.run_sizeOf (inferInstance : TI Try.prog 83 _ _ _)) encD (fun _ => rfl)
    (fun x v hv => by simp [encD] at hv; rcases hv with rfl | rfl <;> rfl) cmpD swoD totD 85 inferInstance (fun x y => cmpD_w x y) _ n l (by omega)
instance {c g n : Nat} {l : List Dot} : OC Try.prog 84 [.o (.osl c g 2 0 l.length), .p (.v (.func (.func 85) #[] #[]))] [(c, (n, some (.buf 83 2 (l.map dR))))] [] (n = g + 1 ∧ l.length ≤ 1000000000) (.tup []) [(c, (n, some (.buf 83 2 ((sortD l).map dR))))] := ⟨fun h => by obtain ⟨rfl, h⟩ := h; exact (sortD_o g l h).one c⟩
theorem sortE_len (l : List Ent) : (sortE l).length = l.length := List.length_mergeSort ..
theorem sortD_len (l : List Dot) : (sortD l).length = l.length := List.length_mergeSort ..
end Go.Proofs.Ytbfjcohocedoaaa.Ca
