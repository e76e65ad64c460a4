/- SHA-256, the program's: the sum, as callers write its texts. -/
import Derived.Test.YthhlcdacmlnjdaaGreatSh7
namespace Go.Proofs.YthhlcdacmlnjdaaGreat.Sh
open Go Go.RowKit Go.Aw Go.Aw.Sha
set_option linter.unusedVariables false
set_option linter.unusedSimpArgs false
set_option maxRecDepth 8000
attribute [local irreducible] sum

theorem sum1_c (l : List Nat) (e1 e : Bool) (h : l.length ≤ 500000000) : PCall Tryz.prog 77 [.p (.sl 1 [[bytesP l e1]] e)] (.a ((sum l).map bc)) := by
  have := sum_c [(l, e1)] e ⟨by simpa using h, by simp⟩
  rwa [show ([(l, e1)] : List (List Nat × Bool)).flatMap (·.1) = l by simp] at this
theorem sum2_c (a b : List Nat) (e1 e2 e : Bool) (h : a.length + b.length ≤ 500000000) : PCall Tryz.prog 77 [.p (.sl 1 [[bytesP a e1], [bytesP b e2]] e)] (.a ((sum (a ++ b)).map bc)) := by
  have := sum_c [(a, e1), (b, e2)] e ⟨by simpa using h, by simp⟩
  rwa [show ([(a, e1), (b, e2)] : List (List Nat × Bool)).flatMap (·.1) = a ++ b by simp] at this
instance {l : List Nat} {e1 e : Bool} : PC Tryz.prog 77 [.p (.sl 1 [[bytesP l e1]] e)] (l.length ≤ 500000000) (.a ((sum l).map bc)) := ⟨sum1_c l e1 e⟩
/-- a leaf's texts: a zero byte, and what is given -/
instance {b : List Nat} {e2 e : Bool} : PC Tryz.prog 77 [.p (.sl 1 [[.sl 1 [[.v (.int .u8 0)]] true], [bytesP b e2]] e)] (b.length ≤ 400000000) (.a ((sum (0 :: b)).map bc)) := ⟨fun h => sum2_c [0] b true e2 e (by simp only [List.length_cons, List.length_nil]; omega)⟩
end Go.Proofs.YthhlcdacmlnjdaaGreat.Sh
