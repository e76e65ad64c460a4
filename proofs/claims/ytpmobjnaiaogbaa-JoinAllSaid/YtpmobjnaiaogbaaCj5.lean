/- joins, the laws: fixed calls -/
import Derived.Test.YtpmobjnaiaogbaaCj3
import Derived.Test.YtpmobjnaiaogbaaCj4
import Derived.Test.YtpmobjnaiaogbaaKj
namespace Go.Proofs.Ytpmobjnaiaogbaa.Ca
open Go Go.RowKit Go.Aw Go.Aw.Cart Go.Aw.Ord Go.Sort
set_option linter.unusedVariables false
set_option linter.unusedSimpArgs false
set_option maxRecDepth 8000
set_option maxHeartbeats 4000000
namespace K5
def va : List Int := [1, 0, 0, 0, 0, 0, 0, 0]
def vb : List Int := [1, 1, 0, 0, 0, 0, 0, 0]
def e1 : Ent := (5, 1, 1, 2)
def e3 : Ent := (5, 1, 1, 3)
def b1 : Ent := (6, 2, 1, 1)
theorem ra : rightF va [e1] = true := rightF_iff.2 ⟨by decide, by decide, by decide⟩
theorem rb : rightF vb [b1] = true := rightF_iff.2 ⟨by decide, by decide, by decide⟩
theorem rc : rightF va [e3] = true := rightF_iff.2 ⟨by decide, by decide, by decide⟩
theorem rd : rightF zeroV [e3] = false := by
  rw [← Bool.not_eq_true]
  intro h
  have := (ok_iff.1 h).has e3 (by simp)
  rw [has_zero] at this; cases this
theorem sb : sortE [b1] = [b1] := sortE_id (List.pairwise_singleton _ _)
theorem t1 : twoF (va, [e1]) (vb, [b1]) = ((vb, [b1]), 0) := by
  unfold twoF
  rw [ra, rb, if_neg (by simp), if_neg (by decide), if_neg (by decide), show bothF (va, [e1]) (vb, [b1]) = [b1] by decide, sb]; rfl
theorem t2 : twoF (vb, [b1]) (va, [e1]) = ((vb, [b1]), 0) := by
  unfold twoF
  rw [ra, rb, if_neg (by simp), if_neg (by decide), if_neg (by decide), show bothF (vb, [b1]) (va, [e1]) = [b1] by decide, sb]; rfl
theorem t3 : twoF (va, [e1]) (va, [e3]) = ((zeroV, []), 14) := by
  unfold twoF
  rw [ra, rc, if_neg (by simp), if_pos (by decide)]
theorem t4 : twoF (va, [e1]) (zeroV, [e3]) = ((zeroV, []), 3) := by
  unfold twoF
  rw [rd, if_pos (by simp)]
theorem rz : rightF zeroV [] = true := rightF_iff.2 ⟨by decide, by decide, by decide⟩
theorem t5 : twoF (zeroV, []) (vb, [b1]) = ((vb, [b1]), 0) := by
  unfold twoF
  rw [rz, rb, if_neg (by simp), if_neg (by decide), if_neg (by decide), show bothF (zeroV, []) (vb, [b1]) = [b1] by decide, sb]; rfl
theorem t6 : twoF (vb, [b1]) (zeroV, []) = ((vb, [b1]), 0) := by
  unfold twoF
  rw [rz, rb, if_neg (by simp), if_neg (by decide), if_neg (by decide), show bothF (vb, [b1]) (zeroV, []) = [b1] by decide, sb]; rfl
theorem t7 : allF [(vb, [b1]), (va, [e1]), (zeroV, [])] 3 = ((vb, [b1]), 0) := by
  have h1 : allF [(vb, [b1]), (va, [e1]), (zeroV, [])] 1 = ((vb, [b1]), 0) := by
    show (if (0 : Int) = 0 then (if (twoF (zeroV, []) (vb, [b1])).2 = 0 then twoF (zeroV, []) (vb, [b1]) else ((zeroV, []), (twoF (zeroV, []) (vb, [b1])).2)) else ((zeroV, []), 0)) = _
    rw [t5]; rfl
  have h2 : allF [(vb, [b1]), (va, [e1]), (zeroV, [])] 2 = ((vb, [b1]), 0) := by
    rw [show (2 : Nat) = 1 + 1 from rfl, allF, h1]
    show (if (0 : Int) = 0 then (if (twoF (vb, [b1]) (va, [e1])).2 = 0 then twoF (vb, [b1]) (va, [e1]) else ((zeroV, []), (twoF (vb, [b1]) (va, [e1])).2)) else ((vb, [b1]), 0)) = _
    rw [t2]; rfl
  rw [show (3 : Nat) = 2 + 1 from rfl, allF, h2]
  show (if (0 : Int) = 0 then (if (twoF (vb, [b1]) (zeroV, [])).2 = 0 then twoF (vb, [b1]) (zeroV, []) else ((zeroV, []), (twoF (vb, [b1]) (zeroV, [])).2)) else ((vb, [b1]), 0)) = _
  rw [t6]; rfl
end K5
open J3 K5
theorem alive8_w : PCall Try.prog 18 [] (.p (.b true)) := by
  refine pcall_of Try.func18 rfl (fun w0 F S0 M0 => ?_)
  have c1 : PCall Try.prog 23 [.a [.p (.k .u64 1), .p (.k .u64 0), .p (.k .u64 0), .p (.k .u64 0), .p (.k .u64 0), .p (.k .u64 0), .p (.k .u64 0), .p (.k .u64 0), .p (.sl 4 [[.i 5, .i 1, .k .u64 1, .i 2]] true)], .a [.p (.k .u64 1), .p (.k .u64 1), .p (.k .u64 0), .p (.k .u64 0), .p (.k .u64 0), .p (.k .u64 0), .p (.k .u64 0), .p (.k .u64 0), .p (.sl 4 [[.i 6, .i 2, .k .u64 1, .i 1]] true)]] (.tup [.agg [.p (.k .u64 1), .p (.k .u64 1), .p (.k .u64 0), .p (.k .u64 0), .p (.k .u64 0), .p (.k .u64 0), .p (.k .u64 0), .p (.k .u64 0), .p (.sl 4 [[.i 6, .i 2, .k .u64 1, .i 1]] false)], .one (.p (.i 0))]) := by
    have k := two_w va vb [e1] [b1] true true rfl rfl (by decide) (by decide) (by decide)
    rw [t1] at k; exact k
  haveI : PC Try.prog 23 [.a [.p (.k .u64 1), .p (.k .u64 0), .p (.k .u64 0), .p (.k .u64 0), .p (.k .u64 0), .p (.k .u64 0), .p (.k .u64 0), .p (.k .u64 0), .p (.sl 4 [[.i 5, .i 1, .k .u64 1, .i 2]] true)], .a [.p (.k .u64 1), .p (.k .u64 1), .p (.k .u64 0), .p (.k .u64 0), .p (.k .u64 0), .p (.k .u64 0), .p (.k .u64 0), .p (.k .u64 0), .p (.sl 4 [[.i 6, .i 2, .k .u64 1, .i 1]] true)]] True (.tup [.agg [.p (.k .u64 1), .p (.k .u64 1), .p (.k .u64 0), .p (.k .u64 0), .p (.k .u64 0), .p (.k .u64 0), .p (.k .u64 0), .p (.k .u64 0), .p (.sl 4 [[.i 6, .i 2, .k .u64 1, .i 1]] false)], .one (.p (.i 0))]) := ⟨fun _ => c1⟩
  have c2 : PCall Try.prog 23 [.a [.p (.k .u64 1), .p (.k .u64 0), .p (.k .u64 0), .p (.k .u64 0), .p (.k .u64 0), .p (.k .u64 0), .p (.k .u64 0), .p (.k .u64 0), .p (.sl 4 [[.i 5, .i 1, .k .u64 1, .i 2]] true)], .a [.p (.k .u64 1), .p (.k .u64 0), .p (.k .u64 0), .p (.k .u64 0), .p (.k .u64 0), .p (.k .u64 0), .p (.k .u64 0), .p (.k .u64 0), .p (.sl 4 [[.i 5, .i 1, .k .u64 1, .i 3]] true)]] (.tup [.agg [.p (.k .u64 0), .p (.k .u64 0), .p (.k .u64 0), .p (.k .u64 0), .p (.k .u64 0), .p (.k .u64 0), .p (.k .u64 0), .p (.k .u64 0), .p (.sl 4 [] false)], .one (.p (.i 14))]) := by
    have k := two_w va va [e1] [e3] true true rfl rfl (by decide) (by decide) (by decide)
    rw [t3] at k; exact k
  haveI : PC Try.prog 23 [.a [.p (.k .u64 1), .p (.k .u64 0), .p (.k .u64 0), .p (.k .u64 0), .p (.k .u64 0), .p (.k .u64 0), .p (.k .u64 0), .p (.k .u64 0), .p (.sl 4 [[.i 5, .i 1, .k .u64 1, .i 2]] true)], .a [.p (.k .u64 1), .p (.k .u64 0), .p (.k .u64 0), .p (.k .u64 0), .p (.k .u64 0), .p (.k .u64 0), .p (.k .u64 0), .p (.k .u64 0), .p (.sl 4 [[.i 5, .i 1, .k .u64 1, .i 3]] true)]] True (.tup [.agg [.p (.k .u64 0), .p (.k .u64 0), .p (.k .u64 0), .p (.k .u64 0), .p (.k .u64 0), .p (.k .u64 0), .p (.k .u64 0), .p (.k .u64 0), .p (.sl 4 [] false)], .one (.p (.i 14))]) := ⟨fun _ => c2⟩
  have c3 : PCall Try.prog 23 [.a [.p (.k .u64 1), .p (.k .u64 0), .p (.k .u64 0), .p (.k .u64 0), .p (.k .u64 0), .p (.k .u64 0), .p (.k .u64 0), .p (.k .u64 0), .p (.sl 4 [[.i 5, .i 1, .k .u64 1, .i 2]] true)], .a [.p (.k .u64 0), .p (.k .u64 0), .p (.k .u64 0), .p (.k .u64 0), .p (.k .u64 0), .p (.k .u64 0), .p (.k .u64 0), .p (.k .u64 0), .p (.sl 4 [[.i 5, .i 1, .k .u64 1, .i 3]] true)]] (.tup [.agg [.p (.k .u64 0), .p (.k .u64 0), .p (.k .u64 0), .p (.k .u64 0), .p (.k .u64 0), .p (.k .u64 0), .p (.k .u64 0), .p (.k .u64 0), .p (.sl 4 [] false)], .one (.p (.i 3))]) := by
    have k := two_w va zeroV [e1] [e3] true true rfl rfl (by decide) (by decide) (by decide)
    rw [t4] at k; exact k
  haveI : PC Try.prog 23 [.a [.p (.k .u64 1), .p (.k .u64 0), .p (.k .u64 0), .p (.k .u64 0), .p (.k .u64 0), .p (.k .u64 0), .p (.k .u64 0), .p (.k .u64 0), .p (.sl 4 [[.i 5, .i 1, .k .u64 1, .i 2]] true)], .a [.p (.k .u64 0), .p (.k .u64 0), .p (.k .u64 0), .p (.k .u64 0), .p (.k .u64 0), .p (.k .u64 0), .p (.k .u64 0), .p (.k .u64 0), .p (.sl 4 [[.i 5, .i 1, .k .u64 1, .i 3]] true)]] True (.tup [.agg [.p (.k .u64 0), .p (.k .u64 0), .p (.k .u64 0), .p (.k .u64 0), .p (.k .u64 0), .p (.k .u64 0), .p (.k .u64 0), .p (.k .u64 0), .p (.sl 4 [] false)], .one (.p (.i 3))]) := ⟨fun _ => c3⟩
  have c4 : PCall Try.prog 20 [.p (.sl 9 [[.k .u64 1, .k .u64 1, .k .u64 0, .k .u64 0, .k .u64 0, .k .u64 0, .k .u64 0, .k .u64 0, .sl 4 [[.i 6, .i 2, .k .u64 1, .i 1]] true], [.k .u64 1, .k .u64 0, .k .u64 0, .k .u64 0, .k .u64 0, .k .u64 0, .k .u64 0, .k .u64 0, .sl 4 [[.i 5, .i 1, .k .u64 1, .i 2]] true], [.k .u64 0, .k .u64 0, .k .u64 0, .k .u64 0, .k .u64 0, .k .u64 0, .k .u64 0, .k .u64 0, .v (.slice none 0 0)]] true)] (.tup [.agg [.p (.k .u64 1), .p (.k .u64 1), .p (.k .u64 0), .p (.k .u64 0), .p (.k .u64 0), .p (.k .u64 0), .p (.k .u64 0), .p (.k .u64 0), .p (.sl 4 [[.i 6, .i 2, .k .u64 1, .i 1]] false)], .one (.p (.i 0))]) := by
    have k := all_w [(vb, [b1]), (va, [e1]), (zeroV, [])] false (by decide) (by decide)
    rw [show ([(vb, [b1]), (va, [e1]), (zeroV, [])] : List Crt).length = 3 from rfl, t7] at k
    refine PCall.ent k (.cons (Ent1.rows ?_) .nil)
    exact .cons (.cons .refl (.cons .refl (.cons .refl (.cons .refl (.cons .refl (.cons .refl (.cons .refl (.cons .refl (.cons .ex .nil))))))))) (.cons (.cons .refl (.cons .refl (.cons .refl (.cons .refl (.cons .refl (.cons .refl (.cons .refl (.cons .refl (.cons .ex .nil))))))))) (.cons (.cons .refl (.cons .refl (.cons .refl (.cons .refl (.cons .refl (.cons .refl (.cons .refl (.cons .refl (.cons .nil .nil))))))))) .nil))
  haveI : PC Try.prog 20 [.p (.sl 9 [[.k .u64 1, .k .u64 1, .k .u64 0, .k .u64 0, .k .u64 0, .k .u64 0, .k .u64 0, .k .u64 0, .sl 4 [[.i 6, .i 2, .k .u64 1, .i 1]] true], [.k .u64 1, .k .u64 0, .k .u64 0, .k .u64 0, .k .u64 0, .k .u64 0, .k .u64 0, .k .u64 0, .sl 4 [[.i 5, .i 1, .k .u64 1, .i 2]] true], [.k .u64 0, .k .u64 0, .k .u64 0, .k .u64 0, .k .u64 0, .k .u64 0, .k .u64 0, .k .u64 0, .v (.slice none 0 0)]] true)] True (.tup [.agg [.p (.k .u64 1), .p (.k .u64 1), .p (.k .u64 0), .p (.k .u64 0), .p (.k .u64 0), .p (.k .u64 0), .p (.k .u64 0), .p (.k .u64 0), .p (.sl 4 [[.i 6, .i 2, .k .u64 1, .i 1]] false)], .one (.p (.i 0))]) := ⟨fun _ => c4⟩
  have c5 : PCall Try.prog 20 [.p (.v (.slice none 0 0))] (.tup [.agg [.p (.k .u64 0), .p (.k .u64 0), .p (.k .u64 0), .p (.k .u64 0), .p (.k .u64 0), .p (.k .u64 0), .p (.k .u64 0), .p (.k .u64 0), .p (.sl 4 [] false)], .one (.p (.i 0))]) := by
    have k := all_w [] false (by decide) (by decide)
    exact PCall.ent k (.cons Ent1.nil .nil)
  haveI : PC Try.prog 20 [.p (.v (.slice none 0 0))] True (.tup [.agg [.p (.k .u64 0), .p (.k .u64 0), .p (.k .u64 0), .p (.k .u64 0), .p (.k .u64 0), .p (.k .u64 0), .p (.k .u64 0), .p (.k .u64 0), .p (.sl 4 [] false)], .one (.p (.i 0))]) := ⟨fun _ => c5⟩
  have c6 : PCall Try.prog 16 [.a [.p (.k .u64 1), .p (.k .u64 1), .p (.k .u64 0), .p (.k .u64 0), .p (.k .u64 0), .p (.k .u64 0), .p (.k .u64 0), .p (.k .u64 0), .p (.sl 4 [[.i 6, .i 2, .k .u64 1, .i 1]] false)], .a [.p (.k .u64 1), .p (.k .u64 1), .p (.k .u64 0), .p (.k .u64 0), .p (.k .u64 0), .p (.k .u64 0), .p (.k .u64 0), .p (.k .u64 0), .p (.sl 4 [[.i 6, .i 2, .k .u64 1, .i 1]] true)]] (.p (.b true)) := by
    exact same_w vb vb [b1] [b1] false true rfl rfl (by decide)
  haveI : PC Try.prog 16 [.a [.p (.k .u64 1), .p (.k .u64 1), .p (.k .u64 0), .p (.k .u64 0), .p (.k .u64 0), .p (.k .u64 0), .p (.k .u64 0), .p (.k .u64 0), .p (.sl 4 [[.i 6, .i 2, .k .u64 1, .i 1]] false)], .a [.p (.k .u64 1), .p (.k .u64 1), .p (.k .u64 0), .p (.k .u64 0), .p (.k .u64 0), .p (.k .u64 0), .p (.k .u64 0), .p (.k .u64 0), .p (.sl 4 [[.i 6, .i 2, .k .u64 1, .i 1]] true)]] True (.p (.b true)) := ⟨fun _ => c6⟩
  have c7 : PCall Try.prog 16 [.a [.p (.k .u64 1), .p (.k .u64 1), .p (.k .u64 0), .p (.k .u64 0), .p (.k .u64 0), .p (.k .u64 0), .p (.k .u64 0), .p (.k .u64 0), .p (.sl 4 [[.i 6, .i 2, .k .u64 1, .i 1]] false)], .a [.p (.k .u64 1), .p (.k .u64 1), .p (.k .u64 0), .p (.k .u64 0), .p (.k .u64 0), .p (.k .u64 0), .p (.k .u64 0), .p (.k .u64 0), .p (.sl 4 [[.i 6, .i 2, .k .u64 1, .i 1]] false)]] (.p (.b true)) := by
    exact same_w vb vb [b1] [b1] false false rfl rfl (by decide)
  haveI : PC Try.prog 16 [.a [.p (.k .u64 1), .p (.k .u64 1), .p (.k .u64 0), .p (.k .u64 0), .p (.k .u64 0), .p (.k .u64 0), .p (.k .u64 0), .p (.k .u64 0), .p (.sl 4 [[.i 6, .i 2, .k .u64 1, .i 1]] false)], .a [.p (.k .u64 1), .p (.k .u64 1), .p (.k .u64 0), .p (.k .u64 0), .p (.k .u64 0), .p (.k .u64 0), .p (.k .u64 0), .p (.k .u64 0), .p (.sl 4 [[.i 6, .i 2, .k .u64 1, .i 1]] false)]] True (.p (.b true)) := ⟨fun _ => c7⟩
  have c8 : PCall Try.prog 16 [.a [.p (.k .u64 0), .p (.k .u64 0), .p (.k .u64 0), .p (.k .u64 0), .p (.k .u64 0), .p (.k .u64 0), .p (.k .u64 0), .p (.k .u64 0), .p (.sl 4 [] false)], .a [.p (.k .u64 0), .p (.k .u64 0), .p (.k .u64 0), .p (.k .u64 0), .p (.k .u64 0), .p (.k .u64 0), .p (.k .u64 0), .p (.k .u64 0), .p (.v (.slice none 0 0))]] (.p (.b true)) := by
    have k : PCall Try.prog 16 [cV zeroV [] false, cV zeroV [] false] (.p (.b true)) := same_w zeroV zeroV [] [] false false rfl rfl (by decide)
    refine PCall.ent k (.cons Ent1.refl (.cons (Ent1.cells (cs := [.k .u64 0, .k .u64 0, .k .u64 0, .k .u64 0, .k .u64 0, .k .u64 0, .k .u64 0, .k .u64 0, .v (.slice none 0 0)]) (ds := cR zeroV [] false) ?_) .nil))
    exact .cons .refl (.cons .refl (.cons .refl (.cons .refl (.cons .refl (.cons .refl (.cons .refl (.cons .refl (.cons .nil .nil))))))))
  haveI : PC Try.prog 16 [.a [.p (.k .u64 0), .p (.k .u64 0), .p (.k .u64 0), .p (.k .u64 0), .p (.k .u64 0), .p (.k .u64 0), .p (.k .u64 0), .p (.k .u64 0), .p (.sl 4 [] false)], .a [.p (.k .u64 0), .p (.k .u64 0), .p (.k .u64 0), .p (.k .u64 0), .p (.k .u64 0), .p (.k .u64 0), .p (.k .u64 0), .p (.k .u64 0), .p (.v (.slice none 0 0))]] True (.p (.b true)) := ⟨fun _ => c8⟩
  have c9 : PCall Try.prog 25 [.a [.p (.k .u64 1), .p (.k .u64 1), .p (.k .u64 0), .p (.k .u64 0), .p (.k .u64 0), .p (.k .u64 0), .p (.k .u64 0), .p (.k .u64 0), .p (.sl 4 [[.i 6, .i 2, .k .u64 1, .i 1]] true)], .a [.p (.k .u64 1), .p (.k .u64 0), .p (.k .u64 0), .p (.k .u64 0), .p (.k .u64 0), .p (.k .u64 0), .p (.k .u64 0), .p (.k .u64 0), .p (.sl 4 [[.i 5, .i 1, .k .u64 1, .i 2]] true)]] (.p (.b true)) := by
    have k := covers_w vb va [b1] [e1] true true rfl rfl (by decide) (by decide) (by decide)
    rw [show coversF (vb, [b1]) (va, [e1]) = true by unfold coversF; rw [t2]; decide] at k
    exact k
  haveI : PC Try.prog 25 [.a [.p (.k .u64 1), .p (.k .u64 1), .p (.k .u64 0), .p (.k .u64 0), .p (.k .u64 0), .p (.k .u64 0), .p (.k .u64 0), .p (.k .u64 0), .p (.sl 4 [[.i 6, .i 2, .k .u64 1, .i 1]] true)], .a [.p (.k .u64 1), .p (.k .u64 0), .p (.k .u64 0), .p (.k .u64 0), .p (.k .u64 0), .p (.k .u64 0), .p (.k .u64 0), .p (.k .u64 0), .p (.sl 4 [[.i 5, .i 1, .k .u64 1, .i 2]] true)]] True (.p (.b true)) := ⟨fun _ => c9⟩
  have c10 : PCall Try.prog 26 [.a [.p (.k .u64 1), .p (.k .u64 0), .p (.k .u64 0), .p (.k .u64 0), .p (.k .u64 0), .p (.k .u64 0), .p (.k .u64 0), .p (.k .u64 0), .p (.sl 4 [[.i 5, .i 1, .k .u64 1, .i 2]] true)], .a [.p (.k .u64 1), .p (.k .u64 1), .p (.k .u64 0), .p (.k .u64 0), .p (.k .u64 0), .p (.k .u64 0), .p (.k .u64 0), .p (.k .u64 0), .p (.sl 4 [[.i 6, .i 2, .k .u64 1, .i 1]] true)]] (.p (.i (-1))) := by
    have k := orderC_w va vb [e1] [b1] true true rfl rfl (by decide) (by decide) (by decide) (by decide)
    rw [show orderF (va, [e1]) (vb, [b1]) = -1 by
      unfold orderF coversF; rw [t1, t2]; decide] at k
    exact k
  haveI : PC Try.prog 26 [.a [.p (.k .u64 1), .p (.k .u64 0), .p (.k .u64 0), .p (.k .u64 0), .p (.k .u64 0), .p (.k .u64 0), .p (.k .u64 0), .p (.k .u64 0), .p (.sl 4 [[.i 5, .i 1, .k .u64 1, .i 2]] true)], .a [.p (.k .u64 1), .p (.k .u64 1), .p (.k .u64 0), .p (.k .u64 0), .p (.k .u64 0), .p (.k .u64 0), .p (.k .u64 0), .p (.k .u64 0), .p (.sl 4 [[.i 6, .i 2, .k .u64 1, .i 1]] true)]] True (.p (.i (-1))) := ⟨fun _ => c10⟩
  clear c1 c2 c3 c4 c5 c6 c7 c8 c9 c10
  repeat' (first
      | refine rnC ?_
      | refine rnSB ?_
      | refine rnG ?_
      | refine rnU ?_
      | ((fail_if_success (refine rnKn ?_)); refine rnP ?_ ?_ <;> (intro hq; try (have hq' := hq; simp only [hqs] at hq')))
      | refine rkC ?_
      | refine rkSB ?_
      | refine rkF ?_
      | refine rkU ?_
      | ((fail_if_success (refine rkKn ?_)); refine rkP ?_ ?_ <;> (intro hq; try (have hq' := hq; simp only [hqs] at hq')))
      | refine stp ?_
      | refine aws_draws [] mixed (by kernel_rfl) ?_
      | refine ifT ?_
      | refine ifF ?_
      | (refine ifQ ?_ ?_ <;> (try (intro hn)))
      | (refine ifB ?_ ?_ <;> (intro hq; try (have hq' := hq; simp only [hqs] at hq'))))
  exact rt1 rfl rfl finS_p rfl
instance alive8_i : PC Try.prog 18 [] True (.p (.b true)) := ⟨fun _ => alive8_w⟩
end Go.Proofs.Ytpmobjnaiaogbaa.Ca
