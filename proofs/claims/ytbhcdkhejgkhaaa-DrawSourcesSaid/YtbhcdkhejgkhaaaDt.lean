/- Chapter 25 (draw): count; the source. -/
import Derived.Test.YtbhcdkhejgkhaaaDr
namespace Go.Proofs.Ytbhcdkhejgkhaaa.Dr
open Go Go.RowKit Go.Aw
set_option linter.unusedVariables false
set_option linter.unusedSimpArgs false
set_option maxRecDepth 4000

theorem count_c (l : List Int) (ex : Bool) (n : Int) (h : l.length ≤ 1000000000) : PCall Try.prog 39 [ints l ex, .p (.i n)] (.p (.i (l.count n))) := by
  refine pcall_of Try.func39 rfl (fun w0 F S0 M0 => ?_)
  repeat' (first
      | refine rnA ?_
      | refine rnS ?_
      | refine rnG ?_
      | refine rnU ?_
      | ((fail_if_success (refine rnKn ?_)); refine rnP ?_ ?_ <;> (intro hq; try (have hq' := hq; simp only [hqs] at hq')))
      | refine rkA ?_
      | refine rkS ?_
      | refine rkF ?_
      | refine rkU ?_
      | ((fail_if_success (refine rkKn ?_)); refine rkP ?_ ?_ <;> (intro hq; try (have hq' := hq; simp only [hqs] at hq')))
      | refine stp ?_
      | refine aws_draws [] mixed (by kernel_rfl) ?_
      | refine ifT ?_
      | refine ifF ?_
      | (refine ifQ ?_ ?_ <;> (try (intro hn)))
      | (refine ifB ?_ ?_ <;> (intro hq; try (have hq' := hq; simp only [hqs] at hq'))))
  refine aws_loopF [5, 6, 7, 8, 9, 10, 11, 12, 13, 14, 15, 16, 17, 18, 19, 20] [] (fun (i : Nat) => [(5, .p (.i ((l.take i).count n : Nat))), (6, .p (.i i))]) (fun _ => []) (fun i => i ≤ l.length) (fun i => l.length - i) 0 (Nat.zero_le _) (by exact knA) (by exact knA) ?_
  rintro i β γ hi
  have hb : (l.take i).count n ≤ l.length := Nat.le_trans List.count_le_length (by simp; omega)
  repeat' (first
      | refine rnA ?_
      | refine rnS ?_
      | refine rnG ?_
      | refine rnU ?_
      | ((fail_if_success (refine rnKn ?_)); refine rnP ?_ ?_ <;> (intro hq; try (have hq' := hq; simp only [hqs] at hq')))
      | refine rkA ?_
      | refine rkS ?_
      | refine rkF ?_
      | refine rkU ?_
      | ((fail_if_success (refine rkKn ?_)); refine rkP ?_ ?_ <;> (intro hq; try (have hq' := hq; simp only [hqs] at hq')))
      | refine stp ?_
      | refine aws_draws [] mixed (by kernel_rfl) ?_
      | refine ifT ?_
      | refine ifF ?_
      | (refine ifQ ?_ ?_ <;> (try (intro hn)))
      | (refine ifB ?_ ?_ <;> (intro hq; try (have hq' := hq; simp only [hqs] at hq'))))
  · refine ⟨i + 1, by omega, by omega, ?_⟩
    have e : (((l.take (i + 1)).count n : Nat) : Int) = ((l.take i).count n : Nat) + 1 := by
      rw [List.take_succ_eq_append_getElem (by omega), List.count_append]
      have : l[i]'(by omega) = n := by have := hq'; simp only [Int.toNat_natCast, List.getD_eq_getElem?_getD, List.getElem?_eq_getElem (show i < l.length by omega)] at this; simpa using this
      simp [this]
    rw [e]
    exact frA
  · refine ⟨i + 1, by omega, by omega, ?_⟩
    have e : (((l.take (i + 1)).count n : Nat) : Int) = ((l.take i).count n : Nat) := by
      rw [List.take_succ_eq_append_getElem (by omega), List.count_append]
      have : ¬ l[i]'(by omega) = n := by have := hq'; simp only [Int.toNat_natCast, List.getD_eq_getElem?_getD, List.getElem?_eq_getElem (show i < l.length by omega)] at this; simpa using this
      simp [this]
    rw [e]
    exact frA
  · refine rt1 rfl rfl finS_p (ri ?_)
    rw [List.take_of_length_le (by omega)]

abbrev srcB (ds : List Int) (ex : Bool) : MO := .box 52 [.p (.b true), .p (.sl 1 (ds.map fun n => [PVal.k .u64 n]) ex)]
def nextR (ds : List Int) : Int × Int := match ds with | [] => (0, 4) | d :: _ => (d, 0)
theorem next_c (n : Nat) (ds : List Int) (ex : Bool) (h : ds.length ≤ 1000000000) : OCall Try.prog 38 [.o (.ptr 1000 n 0)] (memL [(1000, (n + 1, some (srcB ds ex)))])
    (.tup [.one (.p (.k .u64 (nextR ds).1)), .one (.p (.i (nextR ds).2))]) (memL [(1000, (n + 1, some (srcB (ds.drop 1) ex)))]) := by
  refine ocall_of1 Try.func38 rfl (fun w0 F S0 M0 => ?_)
  repeat' (first
      | refine rnA ?_
      | refine rnS ?_
      | refine rnG ?_
      | refine rnU ?_
      | ((fail_if_success (refine rnKn ?_)); refine rnP ?_ ?_ <;> (intro hq; try (have hq' := hq; simp only [hqs] at hq')))
      | refine rkA ?_
      | refine rkS ?_
      | refine rkF ?_
      | refine rkU ?_
      | ((fail_if_success (refine rkKn ?_)); refine rkP ?_ ?_ <;> (intro hq; try (have hq' := hq; simp only [hqs] at hq')))
      | refine stp ?_
      | refine aws_draws [] mixed (by kernel_rfl) ?_
      | refine ifT ?_
      | refine ifF ?_
      | (refine ifQ ?_ ?_ <;> (try (intro hn)))
      | (refine ifB ?_ ?_ <;> (intro hq; try (have hq' := hq; simp only [hqs] at hq'))))
  · obtain rfl : ds = [] := List.eq_nil_of_length_eq_zero (by omega)
    exact RetO.mk (ot2 rfl rfl finS_p rfl finS_p rfl) ⟨finM_box rfl finL_p, trivial⟩
  · cases ds with
    | nil => exact absurd rfl hq'
    | cons d ds => exact RetO.mk (ot2 rfl rfl finS_p rfl finS_p rfl) ⟨finM_box rfl finL_p, trivial⟩
instance {c n : Nat} {ds : List Int} {ex : Bool} : OC Try.prog 38 [.o (.ptr c n 0)] [(c, (n + 1, some (srcB ds ex)))] [] (ds.length ≤ 1000000000)
    (.tup [.one (.p (.k .u64 (nextR ds).1)), .one (.p (.i (nextR ds).2))]) [(c, (n + 1, some (srcB (ds.drop 1) ex)))] := ⟨fun h => (next_c n ds ex h).one c⟩

theorem left_c (n : Nat) (ds : List Int) (ex : Bool) : OCall Try.prog 36 [.o (.ptr 1000 n 0)] (memL [(1000, (n + 1, some (srcB ds ex)))]) (.p (.i ds.length)) (memL [(1000, (n + 1, some (srcB ds ex)))]) := by
  refine ocall_of1 Try.func36 rfl (fun w0 F S0 M0 => ?_)
  repeat' (first
      | refine rnA ?_
      | refine rnS ?_
      | refine rnG ?_
      | refine rnU ?_
      | ((fail_if_success (refine rnKn ?_)); refine rnP ?_ ?_ <;> (intro hq; try (have hq' := hq; simp only [hqs] at hq')))
      | refine rkA ?_
      | refine rkS ?_
      | refine rkF ?_
      | refine rkU ?_
      | ((fail_if_success (refine rkKn ?_)); refine rkP ?_ ?_ <;> (intro hq; try (have hq' := hq; simp only [hqs] at hq')))
      | refine stp ?_
      | refine aws_draws [] mixed (by kernel_rfl) ?_
      | refine ifT ?_
      | refine ifF ?_
      | (refine ifQ ?_ ?_ <;> (try (intro hn)))
      | (refine ifB ?_ ?_ <;> (intro hq; try (have hq' := hq; simp only [hqs] at hq'))))
  all_goals exact RetO.mk (ot1 rfl rfl finS_p rfl) ⟨finM_box rfl finL_p, trivial⟩
instance {c n : Nat} {ds : List Int} {ex : Bool} : OC Try.prog 36 [.o (.ptr c n 0)] [(c, (n + 1, some (srcB ds ex)))] [] True
    (.p (.i ds.length)) [(c, (n + 1, some (srcB ds ex)))] := ⟨fun _ => (left_c n ds ex).one c⟩
theorem clone_c (ds : List Int) (ex : Bool) (h : ds.length ≤ 1000000000) : PCall Try.prog 63 [u64s ds ex] (u64s ds false) := by
  refine pcall_of Try.func63 rfl (fun w0 F S0 M0 => ?_)
  repeat' (first
      | refine rnA ?_
      | refine rnS ?_
      | refine rnG ?_
      | refine rnU ?_
      | ((fail_if_success (refine rnKn ?_)); refine rnP ?_ ?_ <;> (intro hq; try (have hq' := hq; simp only [hqs] at hq')))
      | refine rkA ?_
      | refine rkS ?_
      | refine rkF ?_
      | refine rkU ?_
      | ((fail_if_success (refine rkKn ?_)); refine rkP ?_ ?_ <;> (intro hq; try (have hq' := hq; simp only [hqs] at hq')))
      | refine stp ?_
      | refine aws_draws [] mixed (by kernel_rfl) ?_
      | refine ifT ?_
      | refine ifF ?_
      | (refine ifQ ?_ ?_ <;> (try (intro hn)))
      | (refine ifB ?_ ?_ <;> (intro hq; try (have hq' := hq; simp only [hqs] at hq'))))
  · obtain rfl : ds = [] := List.map_eq_nil_iff.1 hn
    exact rt1 rfl rfl (.one .nil) rfl
  · exact rt1 rfl rfl finS_p rfl
instance {l : List Int} {ex : Bool} {n : Int} : PC Try.prog 39 [ints l ex, .p (.i n)] (l.length ≤ 1000000000) (.p (.i (l.count n))) := ⟨count_c l ex n⟩
end Go.Proofs.Ytbhcdkhejgkhaaa.Dr
