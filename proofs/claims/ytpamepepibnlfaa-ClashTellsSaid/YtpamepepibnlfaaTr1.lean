/- trees: a leaf's digest. -/
import Derived.Test.YtpamepepibnlfaaTrM
import Derived.Test.YtpamepepibnlfaaSh8
namespace Go.Proofs.Ytpamepepibnlfaa.Tr
open Go Go.RowKit Go.Aw Go.Aw.Sha Go.Aw.Tree Go.Proofs.Ytpamepepibnlfaa.Sh
set_option linter.unusedVariables false
set_option linter.unusedSimpArgs false
set_option maxRecDepth 8000
theorem leaf_c (b : List Nat) (ex : Bool) (h : b.length ≤ 400000000) : PCall Try.prog 63 [bytesN b ex] (.a ((leafD b).map bc)) := by
  obtain ⟨D, hD⟩ : ∃ D, D = leafD b := ⟨_, rfl⟩
  have hl : D.length = 32 := by rw [hD]; exact leafD_len b
  rw [← hD]
  refine pcall_of Try.func63 rfl (fun w0 F S0 M0 => ?_)
  haveI : PC Try.prog 24 [.p (.sl 1 [[.sl 1 [[.v (.int .u8 0)]] true], [bytesP b ex]] true)] True (.a (D.map bc)) := ⟨fun _ => by rw [hD]; exact PC.call (by omega : b.length ≤ 400000000)⟩
  repeat' (first
      | refine rnA ?_
      | refine rnS ?_
      | refine rnG ?_
      | refine rnU ?_
      | ((fail_if_success (refine rnKn ?_)); refine rnP ?_ ?_ <;> (intro hq; try (have hq' := hq; simp only [hqs] at hq')))
      | refine rkA ?_
      | refine rkS ?_
      | refine rkF ?_
      | refine rkU ?_
      | ((fail_if_success (refine rkKn ?_)); refine rkP ?_ ?_ <;> (intro hq; try (have hq' := hq; simp only [hqs] at hq')))
      | refine stp ?_
      | refine aws_draws [] mixed (by kernel_rfl) ?_
      | refine ifT ?_
      | refine ifF ?_
      | (refine ifQ ?_ ?_ <;> (try (intro hn)))
      | (refine ifB ?_ ?_ <;> (intro hq; try (have hq' := hq; simp only [hqs] at hq'))))
  exact rc1 rfl rfl rfl rfl rfl (by simpa using hl) finL_p rfl
instance {b : List Nat} {ex : Bool} : PC Try.prog 63 [bytesN b ex] (b.length ≤ 400000000) (.a ((leafD b).map bc)) := ⟨leaf_c b ex⟩
end Go.Proofs.Ytpamepepibnlfaa.Tr
