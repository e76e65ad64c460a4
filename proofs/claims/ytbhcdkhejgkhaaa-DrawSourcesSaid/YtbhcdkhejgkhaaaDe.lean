/- Chapter 25 (draw): a source of an own slice; a source that is nil, or zero -/
import Derived.Test.YtbhcdkhejgkhaaaDw
import Derived.Test.YtbhcdkhejgkhaaaKg
namespace Go.Proofs.Ytbhcdkhejgkhaaa.Dr
open Go Go.RowKit Go.Aw
set_option linter.unusedVariables false
set_option linter.unusedSimpArgs false
set_option maxRecDepth 8000
set_option maxHeartbeats 4000000

abbrev obuf (ds : List Int) : MO := .buf 39 1 (ds.map fun n => [PVal.k .u64 n])
theorem clone_o (n : Nat) (ds : List Int) (h : ds.length ≤ 1000000000) : OCall Try.prog 63 [.o (.osl 1000 n 1 0 ds.length)] (memL [(1000, (n + 1, some (obuf ds)))]) (u64s ds false) (memL [(1000, (n + 1, some (obuf ds)))]) := by
  refine ocall_of1 Try.func63 rfl (fun w0 F S0 M0 => ?_)
  repeat' (first
      | refine rnB ?_
      | refine rnSB ?_
      | refine rnG ?_
      | refine rnU ?_
      | ((fail_if_success (refine rnKn ?_)); refine rnP ?_ ?_ <;> (intro hq; try (have hq' := hq; simp only [hqs] at hq')))
      | refine rkB ?_
      | refine rkSB ?_
      | refine rkF ?_
      | refine rkU ?_
      | ((fail_if_success (refine rkKn ?_)); refine rkP ?_ ?_ <;> (intro hq; try (have hq' := hq; simp only [hqs] at hq')))
      | refine stp ?_
      | refine ifT ?_
      | refine ifF ?_
      | (refine ifQ ?_ ?_ <;> (try (intro hn)))
      | (refine ifB ?_ ?_ <;> (intro hq; try (have hq' := hq; simp only [hqs] at hq'))))
  refine rn_any (gd_n rfl rfl) rfl (lop_osl_eqnil rfl inferInstance rfl ⟨_, _, _, rfl, rfl⟩ rfl rfl) ?_
  repeat' (first
      | refine rnB ?_
      | refine rnSB ?_
      | refine rnG ?_
      | refine rnU ?_
      | ((fail_if_success (refine rnKn ?_)); refine rnP ?_ ?_ <;> (intro hq; try (have hq' := hq; simp only [hqs] at hq')))
      | refine rkB ?_
      | refine rkSB ?_
      | refine rkF ?_
      | refine rkU ?_
      | ((fail_if_success (refine rkKn ?_)); refine rkP ?_ ?_ <;> (intro hq; try (have hq' := hq; simp only [hqs] at hq')))
      | refine stp ?_
      | refine ifT ?_
      | refine ifF ?_
      | (refine ifQ ?_ ?_ <;> (try (intro hn)))
      | (refine ifB ?_ ?_ <;> (intro hq; try (have hq' := hq; simp only [hqs] at hq'))))
  · obtain rfl : ds = [] := List.eq_nil_of_length_eq_zero hn
    exact RetO.mk (ot1 rfl rfl (.one .nil) rfl) ⟨.buf, trivial⟩
  · refine rn_any (gd_n rfl rfl) rfl (lop_ap_exo rfl inferInstance inferInstance inferInstance rfl rfl rfl rfl rfl rfl (by simp only [maxLen]; omega) (by omega) rfl) ?_
    repeat' (first
        | refine rnB ?_
        | refine rnSB ?_
        | refine rnG ?_
        | refine rnU ?_
        | ((fail_if_success (refine rnKn ?_)); refine rnP ?_ ?_ <;> (intro hq; try (have hq' := hq; simp only [hqs] at hq')))
        | refine rkB ?_
        | refine rkSB ?_
        | refine rkF ?_
        | refine rkU ?_
        | ((fail_if_success (refine rkKn ?_)); refine rkP ?_ ?_ <;> (intro hq; try (have hq' := hq; simp only [hqs] at hq')))
        | refine stp ?_
        | refine ifT ?_
        | refine ifF ?_
        | (refine ifQ ?_ ?_ <;> (try (intro hn)))
        | (refine ifB ?_ ?_ <;> (intro hq; try (have hq' := hq; simp only [hqs] at hq'))))
    exact RetO.mk (ot1 rfl rfl finS_p rfl) ⟨.buf, trivial⟩
instance {c n : Nat} {ds : List Int} : OC Try.prog 63 [.o (.osl c n 1 0 ds.length)] [(c, (n + 1, some (obuf ds)))] [] (ds.length ≤ 1000000000) (u64s ds false) [(c, (n + 1, some (obuf ds)))] := ⟨fun h => (clone_o n ds h).one c⟩
theorem from_o (n : Nat) (ds : List Int) (h : ds.length ≤ 1000000000) : OCall Try.prog 35 [.o (.osl 1000 n 1 0 ds.length)] (memL [(1000, (n + 1, some (obuf ds)))]) (.o (.ptr 6 0 0)) (memL [(1000, (n + 1, some (obuf ds))), (6, (1, some (srcB ds false)))]) := by
  refine ocall_of (kIn [(1000, (n + 1, some (obuf ds))), (6, (1, some (srcB ds false)))]) Try.func35 rfl (fun o ho => ?_) (fun w0 F S0 M0 => ?_)
  · have : o ≠ 1000 := fun e => by subst e; simp [kIn] at ho
    simp [memL, this]
  repeat' (first
      | refine rnB ?_
      | refine rnSB ?_
      | refine rnG ?_
      | refine rnU ?_
      | ((fail_if_success (refine rnKn ?_)); refine rnP ?_ ?_ <;> (intro hq; try (have hq' := hq; simp only [hqs] at hq')))
      | refine rkB ?_
      | refine rkSB ?_
      | refine rkF ?_
      | refine rkU ?_
      | ((fail_if_success (refine rkKn ?_)); refine rkP ?_ ?_ <;> (intro hq; try (have hq' := hq; simp only [hqs] at hq')))
      | refine stp ?_
      | refine ifT ?_
      | refine ifF ?_
      | (refine ifQ ?_ ?_ <;> (try (intro hn)))
      | (refine ifB ?_ ?_ <;> (intro hq; try (have hq' := hq; simp only [hqs] at hq'))))
  exact RetO.mk (ot1 rfl rfl (.one (.kptr rfl)) rfl) ⟨.buf, finM_box rfl finL_p, trivial⟩

theorem spick_w (n : Nat) (ds l : List Int) (ex ey : Bool) (h : ds.length ≤ 1000000000 ∧ l.length ≤ 9223372036854775807) (hd : u64ok ds) : OCall Try.prog 37 [.o (.ptr 1000 n 0), ints l ey] (memL [(1000, (n + 1, some (srcB ds ex)))])
    (.tup [.one (.p (.i (spickR ds l).1)), .one (.p (.i (spickR ds l).2))]) (memL [(1000, (n + 1, some (srcB (spickL ds l) ex)))]) := by
  refine ocall_of1 Try.func37 rfl (fun w0 F S0 M0 => ?_)
  have hd0 : 0 ≤ (nextR ds).1 ∧ (nextR ds).1 < 18446744073709551616 := by
    cases ds with
    | nil => exact ⟨Int.le_refl _, by decide⟩
    | cons d ds => exact hd d (by simp)
  repeat' (first
      | refine rnA ?_
      | refine rnS ?_
      | refine rnG ?_
      | refine rnU ?_
      | ((fail_if_success (refine rnKn ?_)); refine rnP ?_ ?_ <;> (intro hq; try (have hq' := hq; simp only [hqs] at hq')))
      | refine rkA ?_
      | refine rkS ?_
      | refine rkF ?_
      | refine rkU ?_
      | ((fail_if_success (refine rkKn ?_)); refine rkP ?_ ?_ <;> (intro hq; try (have hq' := hq; simp only [hqs] at hq')))
      | refine stp ?_
      | refine aws_draws [] mixed (by kernel_rfl) ?_
      | refine ifT ?_
      | refine ifF ?_
      | (refine ifQ ?_ ?_ <;> (try (intro hn)))
      | (refine ifB ?_ ?_ <;> (intro hq; try (have hq' := hq; simp only [hqs] at hq'))))
  · have hl : l.length = 0 := by omega
    exact RetO.mk (ot2 rfl rfl finS_p rfl finS_p (by rw [spickR0 hl])) ⟨finM_box rfl (by rw [spickL0 hl]; exact finL_p), trivial⟩
  · have hl : ¬ l.length = 0 := by omega
    cases ds with
    | cons d ds => exact absurd rfl hq'
    | nil => exact RetO.mk (ot2 rfl rfl finS_p rfl finS_p (by rw [spickR1 hl]; rfl)) ⟨finM_box rfl (by rw [spickL1 hl]; exact finL_p), trivial⟩
  · have hl : ¬ l.length = 0 := by omega
    cases ds with
    | nil => exact absurd hq' (by decide)
    | cons d ds => exact RetO.mk (ot2 rfl rfl finS_p rfl finS_p (by rw [spickR1 hl]; rfl)) ⟨finM_box rfl (by rw [spickL1 hl]; exact finL_p), trivial⟩

/-- of a source that is nil -/
theorem nnext_c : PCall Try.prog 38 [.p (.v (.pointer none))] (.tup [.one (.p (.k .u64 0)), .one (.p (.i 6))]) := by
  refine pcall_of Try.func38 rfl (fun w0 F S0 M0 => ?_)
  repeat' (first
      | refine rnA ?_
      | refine rnS ?_
      | refine rnG ?_
      | refine rnU ?_
      | ((fail_if_success (refine rnKn ?_)); refine rnP ?_ ?_ <;> (intro hq; try (have hq' := hq; simp only [hqs] at hq')))
      | refine rkA ?_
      | refine rkS ?_
      | refine rkF ?_
      | refine rkU ?_
      | ((fail_if_success (refine rkKn ?_)); refine rkP ?_ ?_ <;> (intro hq; try (have hq' := hq; simp only [hqs] at hq')))
      | refine stp ?_
      | refine aws_draws [] mixed (by kernel_rfl) ?_
      | refine ifT ?_
      | refine ifF ?_
      | (refine ifQ ?_ ?_ <;> (try (intro hn)))
      | (refine ifB ?_ ?_ <;> (intro hq; try (have hq' := hq; simp only [hqs] at hq'))))
  exact rt2 rfl rfl finS_p rfl finS_p rfl
instance : PC Try.prog 38 [.p (.v (.pointer none))] True (.tup [.one (.p (.k .u64 0)), .one (.p (.i 6))]) := ⟨fun _ => nnext_c⟩
theorem nleft_c : PCall Try.prog 36 [.p (.v (.pointer none))] (.p (.i 0)) := by
  refine pcall_of Try.func36 rfl (fun w0 F S0 M0 => ?_)
  repeat' (first
      | refine rnA ?_
      | refine rnS ?_
      | refine rnG ?_
      | refine rnU ?_
      | ((fail_if_success (refine rnKn ?_)); refine rnP ?_ ?_ <;> (intro hq; try (have hq' := hq; simp only [hqs] at hq')))
      | refine rkA ?_
      | refine rkS ?_
      | refine rkF ?_
      | refine rkU ?_
      | ((fail_if_success (refine rkKn ?_)); refine rkP ?_ ?_ <;> (intro hq; try (have hq' := hq; simp only [hqs] at hq')))
      | refine stp ?_
      | refine aws_draws [] mixed (by kernel_rfl) ?_
      | refine ifT ?_
      | refine ifF ?_
      | (refine ifQ ?_ ?_ <;> (try (intro hn)))
      | (refine ifB ?_ ?_ <;> (intro hq; try (have hq' := hq; simp only [hqs] at hq'))))
  exact rt1 rfl rfl finS_p rfl
instance : PC Try.prog 36 [.p (.v (.pointer none))] True (.p (.i 0)) := ⟨fun _ => nleft_c⟩
/-- of a source that no call made -/
abbrev zsrc : MO := .box 52 [.p (.v (.bool false)), .p (.v (.slice none 0 0))]
theorem zpick_c (n : Nat) (l : List Int) (ey : Bool) : OCall Try.prog 37 [.o (.ptr 1000 n 0), ints l ey] (memL [(1000, (n + 1, some zsrc))]) (.tup [.one (.p (.i 0)), .one (.p (.i 6))]) (memL [(1000, (n + 1, some zsrc))]) := by
  refine ocall_of1 Try.func37 rfl (fun w0 F S0 M0 => ?_)
  repeat' (first
      | refine rnA ?_
      | refine rnS ?_
      | refine rnG ?_
      | refine rnU ?_
      | ((fail_if_success (refine rnKn ?_)); refine rnP ?_ ?_ <;> (intro hq; try (have hq' := hq; simp only [hqs] at hq')))
      | refine rkA ?_
      | refine rkS ?_
      | refine rkF ?_
      | refine rkU ?_
      | ((fail_if_success (refine rkKn ?_)); refine rkP ?_ ?_ <;> (intro hq; try (have hq' := hq; simp only [hqs] at hq')))
      | refine stp ?_
      | refine aws_draws [] mixed (by kernel_rfl) ?_
      | refine ifT ?_
      | refine ifF ?_
      | (refine ifQ ?_ ?_ <;> (try (intro hn)))
      | (refine ifB ?_ ?_ <;> (intro hq; try (have hq' := hq; simp only [hqs] at hq'))))
  exact RetO.mk (ot2 rfl rfl finS_p rfl finS_p rfl) ⟨finM_box rfl finL_p, trivial⟩
instance {c n : Nat} {l : List Int} {ey : Bool} : OC Try.prog 37 [.o (.ptr c n 0), ints l ey] [(c, (n + 1, some zsrc))] [] True (.tup [.one (.p (.i 0)), .one (.p (.i 6))]) [(c, (n + 1, some zsrc))] := ⟨fun _ => (zpick_c n l ey).one c⟩
theorem zleft_c (n : Nat) : OCall Try.prog 36 [.o (.ptr 1000 n 0)] (memL [(1000, (n + 1, some zsrc))]) (.p (.i 0)) (memL [(1000, (n + 1, some zsrc))]) := by
  refine ocall_of1 Try.func36 rfl (fun w0 F S0 M0 => ?_)
  repeat' (first
      | refine rnA ?_
      | refine rnS ?_
      | refine rnG ?_
      | refine rnU ?_
      | ((fail_if_success (refine rnKn ?_)); refine rnP ?_ ?_ <;> (intro hq; try (have hq' := hq; simp only [hqs] at hq')))
      | refine rkA ?_
      | refine rkS ?_
      | refine rkF ?_
      | refine rkU ?_
      | ((fail_if_success (refine rkKn ?_)); refine rkP ?_ ?_ <;> (intro hq; try (have hq' := hq; simp only [hqs] at hq')))
      | refine stp ?_
      | refine aws_draws [] mixed (by kernel_rfl) ?_
      | refine ifT ?_
      | refine ifF ?_
      | (refine ifQ ?_ ?_ <;> (try (intro hn)))
      | (refine ifB ?_ ?_ <;> (intro hq; try (have hq' := hq; simp only [hqs] at hq'))))
  exact RetO.mk (ot1 rfl rfl finS_p rfl) ⟨finM_box rfl finL_p, trivial⟩
instance {c n : Nat} : OC Try.prog 36 [.o (.ptr c n 0)] [(c, (n + 1, some zsrc))] [] True (.p (.i 0)) [(c, (n + 1, some zsrc))] := ⟨fun _ => (zleft_c n).one c⟩
end Go.Proofs.Ytbhcdkhejgkhaaa.Dr
