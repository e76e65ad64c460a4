/- joins, the laws: fixed calls; the model: maundlaw09.Great, Subset, alive; the model, the laws: ModelOrder; the model: ModelOrder's contract over what was read -/
import Derived.Test.YtgiekdhipbikoaaGreatCj3
import Derived.Test.YtgiekdhipbikoaaGreatCj4
import Derived.Test.YtgiekdhipbikoaaGreatKj
import Derived.Test.YtgiekdhipbikoaaGreatPm3
import Derived.Test.YtgiekdhipbikoaaGreatCbR
namespace Go.Proofs.YtgiekdhipbikoaaGreat.Ca
open Go Go.RowKit Go.Aw Go.Aw.Cart Go.Aw.Ord Go.Sort
set_option linter.unusedVariables false
set_option linter.unusedSimpArgs false
set_option maxRecDepth 8000
set_option maxHeartbeats 4000000
namespace K5
def va : List Int := [1, 0, 0, 0, 0, 0, 0, 0]
def vb : List Int := [1, 1, 0, 0, 0, 0, 0, 0]
def e1 : Ent := (5, 1, 1, 2)
def e3 : Ent := (5, 1, 1, 3)
def b1 : Ent := (6, 2, 1, 1)
theorem ra : rightF va [e1] = true := rightF_iff.2 ⟨by decide, by decide, by decide⟩
theorem rb : rightF vb [b1] = true := rightF_iff.2 ⟨by decide, by decide, by decide⟩
theorem rc : rightF va [e3] = true := rightF_iff.2 ⟨by decide, by decide, by decide⟩
theorem rd : rightF zeroV [e3] = false := by
  rw [← Bool.not_eq_true]
  intro h
  have := (ok_iff.1 h).has e3 (by simp)
  rw [has_zero] at this; cases this
theorem sb : sortE [b1] = [b1] := sortE_id (List.pairwise_singleton _ _)
theorem t1 : twoF (va, [e1]) (vb, [b1]) = ((vb, [b1]), 0) := by
  unfold twoF
  rw [ra, rb, if_neg (by simp), if_neg (by decide), if_neg (by decide), show bothF (va, [e1]) (vb, [b1]) = [b1] by decide, sb]; rfl
theorem t2 : twoF (vb, [b1]) (va, [e1]) = ((vb, [b1]), 0) := by
  unfold twoF
  rw [ra, rb, if_neg (by simp), if_neg (by decide), if_neg (by decide), show bothF (vb, [b1]) (va, [e1]) = [b1] by decide, sb]; rfl
theorem t3 : twoF (va, [e1]) (va, [e3]) = ((zeroV, []), 14) := by
  unfold twoF
  rw [ra, rc, if_neg (by simp), if_pos (by decide)]
theorem t4 : twoF (va, [e1]) (zeroV, [e3]) = ((zeroV, []), 3) := by
  unfold twoF
  rw [rd, if_pos (by simp)]
theorem rz : rightF zeroV [] = true := rightF_iff.2 ⟨by decide, by decide, by decide⟩
theorem t5 : twoF (zeroV, []) (vb, [b1]) = ((vb, [b1]), 0) := by
  unfold twoF
  rw [rz, rb, if_neg (by simp), if_neg (by decide), if_neg (by decide), show bothF (zeroV, []) (vb, [b1]) = [b1] by decide, sb]; rfl
theorem t6 : twoF (vb, [b1]) (zeroV, []) = ((vb, [b1]), 0) := by
  unfold twoF
  rw [rz, rb, if_neg (by simp), if_neg (by decide), if_neg (by decide), show bothF (vb, [b1]) (zeroV, []) = [b1] by decide, sb]; rfl
theorem t7 : allF [(vb, [b1]), (va, [e1]), (zeroV, [])] 3 = ((vb, [b1]), 0) := by
  have h1 : allF [(vb, [b1]), (va, [e1]), (zeroV, [])] 1 = ((vb, [b1]), 0) := by
    show (if (0 : Int) = 0 then (if (twoF (zeroV, []) (vb, [b1])).2 = 0 then twoF (zeroV, []) (vb, [b1]) else ((zeroV, []), (twoF (zeroV, []) (vb, [b1])).2)) else ((zeroV, []), 0)) = _
    rw [t5]; rfl
  have h2 : allF [(vb, [b1]), (va, [e1]), (zeroV, [])] 2 = ((vb, [b1]), 0) := by
    rw [show (2 : Nat) = 1 + 1 from rfl, allF, h1]
    show (if (0 : Int) = 0 then (if (twoF (vb, [b1]) (va, [e1])).2 = 0 then twoF (vb, [b1]) (va, [e1]) else ((zeroV, []), (twoF (vb, [b1]) (va, [e1])).2)) else ((vb, [b1]), 0)) = _
    rw [t2]; rfl
  rw [show (3 : Nat) = 2 + 1 from rfl, allF, h2]
  show (if (0 : Int) = 0 then (if (twoF (vb, [b1]) (zeroV, [])).2 = 0 then twoF (vb, [b1]) (zeroV, []) else ((zeroV, []), (twoF (vb, [b1]) (zeroV, [])).2)) else ((vb, [b1]), 0)) = _
  rw [t6]; rfl
end K5
open J3 K5
end Go.Proofs.YtgiekdhipbikoaaGreat.Ca
namespace Go.Proofs.YtgiekdhipbikoaaGreat.Ca
open Go Go.RowKit Go.Aw Go.Aw.Cart Go.Aw.Ord Go.Sort
set_option linter.unusedVariables false
set_option linter.unusedSimpArgs false
set_option maxRecDepth 8000
set_option maxHeartbeats 4000000
open M6
/-- too much for a statement -/
def greatX (l : List Evt) : Bool := l.any fun x => decide (40 < l.length) || decide (30 < (Evt.off x).length)
theorem great_not {l : List Evt} (h : greatX l = false) : l.length ≤ 40 ∧ ∀ x ∈ l, (Evt.off x).length ≤ 30 := by
  unfold greatX at h
  rw [List.any_eq_false] at h
  have k : ∀ x ∈ l, l.length ≤ 40 ∧ (Evt.off x).length ≤ 30 := fun x hx => by
    have := h x hx
    simp only [Bool.or_eq_true, decide_eq_true_eq, not_or] at this
    omega
  refine ⟨?_, fun x hx => (k x hx).2⟩
  cases l with
  | nil => simp
  | cons a l => exact (k a List.mem_cons_self).1
theorem great9_w (l : List Evt) (ex : Bool) (hl : l.length ≤ maxLen) : PCall Tryz.prog 8 [.p (.sl 6 (l.map xR) ex)] (.p (.b (greatX l))) := by
  refine pcall_of Tryz.func8 rfl (fun w0 F S0 M0 => ?_)
  have hl9 : l.length ≤ 9223372036854775807 := by simpa [maxLen] using hl
  unfold greatX
  repeat' (first
      | refine rnC ?_
      | refine rnSB ?_
      | refine rnG ?_
      | refine rnU ?_
      | ((fail_if_success (refine rnKn ?_)); refine rnP ?_ ?_ <;> (intro hq; try (have hq' := hq; simp only [hqs] at hq')))
      | refine rkC ?_
      | refine rkSB ?_
      | refine rkF ?_
      | refine rkU ?_
      | ((fail_if_success (refine rkKn ?_)); refine rkP ?_ ?_ <;> (intro hq; try (have hq' := hq; simp only [hqs] at hq')))
      | refine stp ?_
      | refine ifT ?_
      | refine ifF ?_
      | (refine ifQ ?_ ?_ <;> (try (intro hn)))
      | (refine ifB ?_ ?_ <;> (intro hq; try (have hq' := hq; simp only [hqs] at hq'))))
  refine aws_loopS [2, 3, 4, 5, 6, 7, 8, 9, 10, 11, 12, 13, 14, 15, 16, 17, 18, 19, 20, 21] [] (fun (i : Nat) => [(3, .p (.i i))]) (fun _ => []) (fun i => i ≤ l.length ∧ ∀ j, j < i → (decide (40 < l.length) || decide (30 < (Evt.off (l.getD j default)).length)) = false) (fun i => l.length - i) 0 ⟨Nat.zero_le _, fun j hj => absurd hj (Nat.not_lt_zero _)⟩ (by exact knA) (by exact knA) ?_
  rintro i β γ ⟨hi, hx⟩
  by_cases hil : i < l.length
  · have hd : decide ((i : Int) < (l.length : Int)) = true := decide_eq_true (by omega)
    have ei : (i : Int).toNat = i := Int.toNat_natCast i
    have hm : l.getD (i : Int).toNat default ∈ l := by rw [ei, getD_at hil]; exact List.getElem_mem _
    by_cases h4 : 40 < l.length
    · have d1 : decide (40 < (l.length : Int)) = true := decide_eq_true (by omega)
      rw [show (l.any fun x => decide (40 < l.length) || decide (30 < (Evt.off x).length)) = true from List.any_eq_true.2 ⟨_, hm, by rw [decide_eq_true h4]; rfl⟩]
      as_aux_lemma =>
        repeat' (first
            | refine rnC ?_
            | refine rnSB ?_
            | refine rnG ?_
            | refine rnU ?_
            | ((fail_if_success (refine rnKn ?_)); refine rnP ?_ ?_ <;> (intro hq; try (have hq' := hq; simp only [hqs] at hq')))
            | refine rkC ?_
            | refine rkSB ?_
            | refine rkF ?_
            | refine rkU ?_
            | ((fail_if_success (refine rkKn ?_)); refine rkP ?_ ?_ <;> (intro hq; try (have hq' := hq; simp only [hqs] at hq')))
            | refine stp ?_
            | refine ifT ?_
            | refine ifF ?_
            | (refine ifQ ?_ ?_ <;> (try (intro hn)))
            | (refine ifB ?_ ?_ <;> (intro hq; try (have hq' := hq; simp only [hqs] at hq'))))
        exact rt1 rfl rfl finS_p rfl
    · have d1 : decide (40 < (l.length : Int)) = false := decide_eq_false (by omega)
      by_cases h3 : 30 < (l.getD (i : Int).toNat default).2.2.2.2.length
      · have d2 : decide (30 < ((l.getD (i : Int).toNat default).2.2.2.2.length : Int)) = true := decide_eq_true (by omega)
        rw [show (l.any fun x => decide (40 < l.length) || decide (30 < (Evt.off x).length)) = true from List.any_eq_true.2 ⟨_, hm, by rw [Bool.or_eq_true]; exact .inr (decide_eq_true h3)⟩]
        as_aux_lemma =>
          repeat' (first
              | refine rnC ?_
              | refine rnSB ?_
              | refine rnG ?_
              | refine rnU ?_
              | ((fail_if_success (refine rnKn ?_)); refine rnP ?_ ?_ <;> (intro hq; try (have hq' := hq; simp only [hqs] at hq')))
              | refine rkC ?_
              | refine rkSB ?_
              | refine rkF ?_
              | refine rkU ?_
              | ((fail_if_success (refine rkKn ?_)); refine rkP ?_ ?_ <;> (intro hq; try (have hq' := hq; simp only [hqs] at hq')))
              | refine stp ?_
              | refine ifT ?_
              | refine ifF ?_
              | (refine ifQ ?_ ?_ <;> (try (intro hn)))
              | (refine ifB ?_ ?_ <;> (intro hq; try (have hq' := hq; simp only [hqs] at hq'))))
          exact rt1 rfl rfl finS_p rfl
      · have d2 : decide (30 < ((l.getD (i : Int).toNat default).2.2.2.2.length : Int)) = false := decide_eq_false (by omega)
        repeat' (first
            | refine rnC ?_
            | refine rnSB ?_
            | refine rnG ?_
            | refine rnU ?_
            | ((fail_if_success (refine rnKn ?_)); refine rnP ?_ ?_ <;> (intro hq; try (have hq' := hq; simp only [hqs] at hq')))
            | refine rkC ?_
            | refine rkSB ?_
            | refine rkF ?_
            | refine rkU ?_
            | ((fail_if_success (refine rkKn ?_)); refine rkP ?_ ?_ <;> (intro hq; try (have hq' := hq; simp only [hqs] at hq')))
            | refine stp ?_
            | refine ifT ?_
            | refine ifF ?_
            | (refine ifQ ?_ ?_ <;> (try (intro hn)))
            | (refine ifB ?_ ?_ <;> (intro hq; try (have hq' := hq; simp only [hqs] at hq'))))
        refine ⟨i + 1, _, by omega, ⟨by omega, fun j hj => ?_⟩, .refl, by exact frA⟩
        by_cases e : j = i
        · rw [e, decide_eq_false h4, Bool.false_or]
          rw [ei] at h3
          exact decide_eq_false h3
        · exact hx j (by omega)
  · have hd : decide ((i : Int) < (l.length : Int)) = false := decide_eq_false (by omega)
    rw [show (l.any fun x => decide (40 < l.length) || decide (30 < (Evt.off x).length)) = false from List.any_eq_false.2 fun x hx' => by
      obtain ⟨j, hj, rfl⟩ := getD_mem hx'
      rw [hx j (by omega)]; simp]
    as_aux_lemma =>
      repeat' (first
          | refine rnC ?_
          | refine rnSB ?_
          | refine rnG ?_
          | refine rnU ?_
          | ((fail_if_success (refine rnKn ?_)); refine rnP ?_ ?_ <;> (intro hq; try (have hq' := hq; simp only [hqs] at hq')))
          | refine rkC ?_
          | refine rkSB ?_
          | refine rkF ?_
          | refine rkU ?_
          | ((fail_if_success (refine rkKn ?_)); refine rkP ?_ ?_ <;> (intro hq; try (have hq' := hq; simp only [hqs] at hq')))
          | refine stp ?_
          | refine ifT ?_
          | refine ifF ?_
          | (refine ifQ ?_ ?_ <;> (try (intro hn)))
          | (refine ifB ?_ ?_ <;> (intro hq; try (have hq' := hq; simp only [hqs] at hq'))))
      exact rt1 rfl rfl finS_p rfl
instance great9_i {l : List Evt} {ex : Bool} : PC Tryz.prog 8 [.p (.sl 6 (l.map xR) ex)] (l.length ≤ maxLen) (.p (.b (greatX l))) := ⟨great9_w l ex⟩
theorem subset1_w (b : List Evt) (ex : Bool) (x : Evt) (hb : b.length ≤ 1000000000) (hx : (Evt.off x).length ≤ 1000000000) : PCall Tryz.prog 85 [xV x, .p (.bx [.sl 6 (b.map xR) ex] 0)] (.p (.b (!decide (x ∈ b)))) := by
  refine pcall_of Tryz.func85 rfl (fun w0 F S0 M0 => ?_)
  have hl : (x.2.2.2.2).length ≤ 1000000000 := hx
  as_aux_lemma =>
    repeat' (first
        | refine rnC ?_
        | refine rnSB ?_
        | refine rnG ?_
        | refine rnU ?_
        | ((fail_if_success (refine rnKn ?_)); refine rnP ?_ ?_ <;> (intro hq; try (have hq' := hq; simp only [hqs] at hq')))
        | refine rkC ?_
        | refine rkSB ?_
        | refine rkF ?_
        | refine rkU ?_
        | ((fail_if_success (refine rkKn ?_)); refine rkP ?_ ?_ <;> (intro hq; try (have hq' := hq; simp only [hqs] at hq')))
        | refine stp ?_
        | refine aws_draws [] mixed (by kernel_rfl) ?_
        | refine ifT ?_
        | refine ifF ?_
        | (refine ifQ ?_ ?_ <;> (try (intro hn)))
        | (refine ifB ?_ ?_ <;> (intro hq; try (have hq' := hq; simp only [hqs] at hq'))))
    exact rt1 rfl rfl finS_p rfl
theorem subset_w (a b : List Evt) (ex ey : Bool) (ha : a.length ≤ 1000000000) (hb : b.length ≤ 1000000000) (ho : ∀ x ∈ a, (Evt.off x).length ≤ 1000000000) : PCall Tryz.prog 41 [.p (.sl 6 (a.map xR) ex), .p (.sl 6 (b.map xR) ey)] (.p (.b (!(a.any fun x => !decide (x ∈ b))))) := by
  refine pcall_of Tryz.func41 rfl (fun w0 F S0 M0 => ?_)
  have c := containsFuncXm_w 85 [.bx [.sl 6 (b.map xR) ey] 0] inferInstance (fun x => !decide (x ∈ b)) a ex ha (fun x hx => subset1_w b ey x hb (ho x hx))
  haveI : PC Tryz.prog 82 [.p (.sl 6 (a.map xR) ex), .p (.fnv 85 [.bx [.sl 6 (b.map xR) ey] 0])] True (.p (.b (a.any fun x => !decide (x ∈ b)))) := ⟨fun _ => c⟩
  as_aux_lemma =>
    repeat' (first
        | refine rnC ?_
        | refine rnSB ?_
        | refine rnG ?_
        | refine rnU ?_
        | ((fail_if_success (refine rnKn ?_)); refine rnP ?_ ?_ <;> (intro hq; try (have hq' := hq; simp only [hqs] at hq')))
        | refine rkC ?_
        | refine rkSB ?_
        | refine rkF ?_
        | refine rkU ?_
        | ((fail_if_success (refine rkKn ?_)); refine rkP ?_ ?_ <;> (intro hq; try (have hq' := hq; simp only [hqs] at hq')))
        | refine stp ?_
        | refine aws_draws [] mixed (by kernel_rfl) ?_
        | refine ifT ?_
        | refine ifF ?_
        | (refine ifQ ?_ ?_ <;> (try (intro hn)))
        | (refine ifB ?_ ?_ <;> (intro hq; try (have hq' := hq; simp only [hqs] at hq'))))
    exact rt1 rfl rfl finS_p rfl
namespace K9
abbrev xa : Evt := (1, 5, 2, (1, 1), [])
abbrev xb : Evt := (2, 5, 3, (2, 1), [(1, 1)])
abbrev xc : Evt := (3, 0, 0, (0, 0), [(2, 1)])
theorem up11 : ([(1, 1), (2, 1)] : List Dot).Pairwise ltD := List.pairwise_cons.2 ⟨fun x hx => by rw [List.mem_singleton.1 hx]; exact .inl (by decide), List.pairwise_singleton _ _⟩
theorem q1 : mDots [xb, xa, xb] = [(1, 1), (2, 1)] := by
  unfold mDots
  rw [show ([xb, xa, xb].filter mkE).map Evt.dot = [(2, 1), (1, 1), (2, 1)] by decide]
  exact set_are (by decide) up11 fun x => by
    obtain ⟨a, b⟩ := x
    simp only [List.mem_cons, List.not_mem_nil, or_false, Prod.mk.injEq, dotF, decide_eq_true_eq]
    omega
theorem k8 : mDots [xa, xb, xc] = [(1, 1), (2, 1)] := by
  unfold mDots
  rw [show ([xa, xb, xc].filter mkE).map Evt.dot = [(1, 1), (2, 1)] by decide]
  exact set_are (by decide) up11 fun x => by
    obtain ⟨a, b⟩ := x
    simp only [List.mem_cons, List.not_mem_nil, or_false, Prod.mk.injEq, dotF, decide_eq_true_eq]
    omega
theorem q3 : mDots [xb] = [(2, 1)] := by
  unfold mDots
  rw [show ([xb].filter mkE).map Evt.dot = [(2, 1)] by decide]
  exact set_are (by decide) (List.pairwise_singleton _ _) fun x => by
    obtain ⟨a, b⟩ := x
    simp only [List.mem_cons, List.not_mem_nil, or_false, Prod.mk.injEq, dotF, decide_eq_true_eq]
    omega
theorem k1 : mCart [xb, xa, xb] = (([1, 1, 0, 0, 0, 0, 0, 0], [(5, 2, 1, 3)]), 0) := by
  unfold mCart
  rw [if_neg (by unfold mWhole; rw [q1]; decide), show outE [xb, xa, xb] = [(5, 2, 1, 3)] by decide, if_neg (by decide), q1, sortE_id (List.pairwise_singleton _ _), show spanTo [(1, 1), (2, 1)] ([(1, 1), (2, 1)] : List Dot).length = [1, 1, 0, 0, 0, 0, 0, 0] by decide]
theorem k2 : mCart [xa, xb, xc] = (([1, 1, 0, 0, 0, 0, 0, 0], []), 0) := by
  unfold mCart
  rw [if_neg (by unfold mWhole; rw [k8]; decide), show outE [xa, xb, xc] = [] by decide, if_neg (by decide), k8, sortE_id .nil, show spanTo [(1, 1), (2, 1)] ([(1, 1), (2, 1)] : List Dot).length = [1, 1, 0, 0, 0, 0, 0, 0] by decide]
theorem k3 : mCart [xb] = ((zeroV, []), 7) := by
  unfold mCart
  rw [if_pos (by unfold mWhole; rw [q3]; decide)]
theorem k9 : rightF [1, 1, 0, 0, 0, 0, 0, 0] [(5, 2, 1, 3)] = true := rightF_iff.2 ⟨by decide, by decide, by decide⟩
end K9
open K9
theorem alive9_w : PCall Tryz.prog 9 [] (.p (.b true)) := by
  refine pcall_of Tryz.func9 rfl (fun w0 F S0 M0 => ?_)
  have c0 : PCall Tryz.prog 10 [.p (.sl 6 [[.i 2, .i 5, .i 3, .i 2, .k .u64 1, .sl 2 [[.i 1, .k .u64 1]] true], [.i 1, .i 5, .i 2, .i 1, .k .u64 1, .v (.slice none 0 0)], [.i 2, .i 5, .i 3, .i 2, .k .u64 1, .sl 2 [[.i 1, .k .u64 1]] true]] true)] (.tup [.agg [.p (.k .u64 1), .p (.k .u64 1), .p (.k .u64 0), .p (.k .u64 0), .p (.k .u64 0), .p (.k .u64 0), .p (.k .u64 0), .p (.k .u64 0), .p (.sl 4 [[.i 5, .i 2, .k .u64 1, .i 3]] false)], .one (.p (.i 0))]) := by
    have k := mCart_w [xb, xa, xb] false (by decide) (by decide) (by decide)
    rw [k1] at k
    exact PCall.ent k (.cons (Ent1.rows (.cons (.cons .refl (.cons .refl (.cons .refl (.cons .refl (.cons .refl (.cons .ex .nil)))))) (.cons (.cons .refl (.cons .refl (.cons .refl (.cons .refl (.cons .refl (.cons .nil .nil)))))) (.cons (.cons .refl (.cons .refl (.cons .refl (.cons .refl (.cons .refl (.cons .ex .nil)))))) .nil)))) .nil)
  haveI : PC Tryz.prog 10 [.p (.sl 6 [[.i 2, .i 5, .i 3, .i 2, .k .u64 1, .sl 2 [[.i 1, .k .u64 1]] true], [.i 1, .i 5, .i 2, .i 1, .k .u64 1, .v (.slice none 0 0)], [.i 2, .i 5, .i 3, .i 2, .k .u64 1, .sl 2 [[.i 1, .k .u64 1]] true]] true)] True (.tup [.agg [.p (.k .u64 1), .p (.k .u64 1), .p (.k .u64 0), .p (.k .u64 0), .p (.k .u64 0), .p (.k .u64 0), .p (.k .u64 0), .p (.k .u64 0), .p (.sl 4 [[.i 5, .i 2, .k .u64 1, .i 3]] false)], .one (.p (.i 0))]) := ⟨fun _ => c0⟩
  have c1 : PCall Tryz.prog 10 [.p (.sl 6 [[.i 1, .i 5, .i 2, .i 1, .k .u64 1, .v (.slice none 0 0)], [.i 2, .i 5, .i 3, .i 2, .k .u64 1, .sl 2 [[.i 1, .k .u64 1]] true], [.i 3, .i 0, .i 0, .i 0, .k .u64 0, .sl 2 [[.i 2, .k .u64 1]] true]] true)] (.tup [.agg [.p (.k .u64 1), .p (.k .u64 1), .p (.k .u64 0), .p (.k .u64 0), .p (.k .u64 0), .p (.k .u64 0), .p (.k .u64 0), .p (.k .u64 0), .p (.sl 4 [] false)], .one (.p (.i 0))]) := by
    have k := mCart_w [xa, xb, xc] false (by decide) (by decide) (by decide)
    rw [k2] at k
    exact PCall.ent k (.cons (Ent1.rows (.cons (.cons .refl (.cons .refl (.cons .refl (.cons .refl (.cons .refl (.cons .nil .nil)))))) (.cons (.cons .refl (.cons .refl (.cons .refl (.cons .refl (.cons .refl (.cons .ex .nil)))))) (.cons (.cons .refl (.cons .refl (.cons .refl (.cons .refl (.cons .refl (.cons .ex .nil)))))) .nil)))) .nil)
  haveI : PC Tryz.prog 10 [.p (.sl 6 [[.i 1, .i 5, .i 2, .i 1, .k .u64 1, .v (.slice none 0 0)], [.i 2, .i 5, .i 3, .i 2, .k .u64 1, .sl 2 [[.i 1, .k .u64 1]] true], [.i 3, .i 0, .i 0, .i 0, .k .u64 0, .sl 2 [[.i 2, .k .u64 1]] true]] true)] True (.tup [.agg [.p (.k .u64 1), .p (.k .u64 1), .p (.k .u64 0), .p (.k .u64 0), .p (.k .u64 0), .p (.k .u64 0), .p (.k .u64 0), .p (.k .u64 0), .p (.sl 4 [] false)], .one (.p (.i 0))]) := ⟨fun _ => c1⟩
  have c2 : PCall Tryz.prog 10 [.p (.sl 6 [[.i 2, .i 5, .i 3, .i 2, .k .u64 1, .sl 2 [[.i 1, .k .u64 1]] true]] true)] (.tup [.agg [.p (.k .u64 0), .p (.k .u64 0), .p (.k .u64 0), .p (.k .u64 0), .p (.k .u64 0), .p (.k .u64 0), .p (.k .u64 0), .p (.k .u64 0), .p (.sl 4 [] false)], .one (.p (.i 7))]) := by
    have k := mCart_w [xb] false (by decide) (by decide) (by decide)
    rw [k3] at k
    exact PCall.ent k (.cons (Ent1.rows (.cons (.cons .refl (.cons .refl (.cons .refl (.cons .refl (.cons .refl (.cons .ex .nil)))))) .nil)) .nil)
  haveI : PC Tryz.prog 10 [.p (.sl 6 [[.i 2, .i 5, .i 3, .i 2, .k .u64 1, .sl 2 [[.i 1, .k .u64 1]] true]] true)] True (.tup [.agg [.p (.k .u64 0), .p (.k .u64 0), .p (.k .u64 0), .p (.k .u64 0), .p (.k .u64 0), .p (.k .u64 0), .p (.k .u64 0), .p (.k .u64 0), .p (.sl 4 [] false)], .one (.p (.i 7))]) := ⟨fun _ => c2⟩
  have c3 : PCall Tryz.prog 39 [.a [.p (.i 3), .p (.i 0), .p (.i 0), .p (.i 0), .p (.k .u64 0), .p (.sl 2 [[.i 2, .k .u64 1]] true)]] (.p (.b true)) := by
    have k := evRight_w xc (by decide)
    rw [(show evR xc = true by decide)] at k
    exact PCall.ent k (.cons (Ent1.cells (cs := [.i 3, .i 0, .i 0, .i 0, .k .u64 0, .sl 2 [[.i 2, .k .u64 1]] true]) (ds := xR xc) (.cons .refl (.cons .refl (.cons .refl (.cons .refl (.cons .refl (.cons .ex .nil))))))) .nil)
  haveI : PC Tryz.prog 39 [.a [.p (.i 3), .p (.i 0), .p (.i 0), .p (.i 0), .p (.k .u64 0), .p (.sl 2 [[.i 2, .k .u64 1]] true)]] True (.p (.b true)) := ⟨fun _ => c3⟩
  have c4 : PCall Tryz.prog 40 [.p (.sl 6 [[.i 1, .i 5, .i 2, .i 1, .k .u64 1, .v (.slice none 0 0)], [.i 3, .i 0, .i 0, .i 0, .k .u64 0, .sl 2 [[.i 2, .k .u64 1]] true]] true), .a [.p (.i 3), .p (.i 0), .p (.i 0), .p (.i 0), .p (.k .u64 0), .p (.sl 2 [[.i 2, .k .u64 1]] true)]] (.p (.b true)) := by
    have k := hasX_w [xa, xc] false xc (by decide) (by decide)
    rw [(show decide (xc ∈ [xa, xc]) = true by decide)] at k
    exact PCall.ent k (.cons (Ent1.rows (.cons (.cons .refl (.cons .refl (.cons .refl (.cons .refl (.cons .refl (.cons .nil .nil)))))) (.cons (.cons .refl (.cons .refl (.cons .refl (.cons .refl (.cons .refl (.cons .ex .nil)))))) .nil))) (.cons (Ent1.cells (cs := [.i 3, .i 0, .i 0, .i 0, .k .u64 0, .sl 2 [[.i 2, .k .u64 1]] true]) (ds := xR xc) (.cons .refl (.cons .refl (.cons .refl (.cons .refl (.cons .refl (.cons .ex .nil))))))) .nil))
  haveI : PC Tryz.prog 40 [.p (.sl 6 [[.i 1, .i 5, .i 2, .i 1, .k .u64 1, .v (.slice none 0 0)], [.i 3, .i 0, .i 0, .i 0, .k .u64 0, .sl 2 [[.i 2, .k .u64 1]] true]] true), .a [.p (.i 3), .p (.i 0), .p (.i 0), .p (.i 0), .p (.k .u64 0), .p (.sl 2 [[.i 2, .k .u64 1]] true)]] True (.p (.b true)) := ⟨fun _ => c4⟩
  have c5 : PCall Tryz.prog 41 [.p (.sl 6 [[.i 1, .i 5, .i 2, .i 1, .k .u64 1, .v (.slice none 0 0)], [.i 1, .i 5, .i 2, .i 1, .k .u64 1, .v (.slice none 0 0)]] true), .p (.sl 6 [[.i 2, .i 5, .i 3, .i 2, .k .u64 1, .sl 2 [[.i 1, .k .u64 1]] true], [.i 1, .i 5, .i 2, .i 1, .k .u64 1, .v (.slice none 0 0)]] true)] (.p (.b true)) := by
    have k := subset_w [xa, xa] [xb, xa] false false (by decide) (by decide) (by decide)
    rw [(show (!([xa, xa].any fun x => !decide (x ∈ [xb, xa]))) = true by decide)] at k
    exact PCall.ent k (.cons (Ent1.rows (.cons (.cons .refl (.cons .refl (.cons .refl (.cons .refl (.cons .refl (.cons .nil .nil)))))) (.cons (.cons .refl (.cons .refl (.cons .refl (.cons .refl (.cons .refl (.cons .nil .nil)))))) .nil))) (.cons (Ent1.rows (.cons (.cons .refl (.cons .refl (.cons .refl (.cons .refl (.cons .refl (.cons .ex .nil)))))) (.cons (.cons .refl (.cons .refl (.cons .refl (.cons .refl (.cons .refl (.cons .nil .nil)))))) .nil))) .nil))
  haveI : PC Tryz.prog 41 [.p (.sl 6 [[.i 1, .i 5, .i 2, .i 1, .k .u64 1, .v (.slice none 0 0)], [.i 1, .i 5, .i 2, .i 1, .k .u64 1, .v (.slice none 0 0)]] true), .p (.sl 6 [[.i 2, .i 5, .i 3, .i 2, .k .u64 1, .sl 2 [[.i 1, .k .u64 1]] true], [.i 1, .i 5, .i 2, .i 1, .k .u64 1, .v (.slice none 0 0)]] true)] True (.p (.b true)) := ⟨fun _ => c5⟩
  have c6 : PCall Tryz.prog 12 [.p (.sl 6 [[.i 1, .i 5, .i 2, .i 1, .k .u64 1, .v (.slice none 0 0)], [.i 1, .i 5, .i 2, .i 1, .k .u64 1, .v (.slice none 0 0)]] true), .p (.sl 6 [[.i 2, .i 5, .i 3, .i 2, .k .u64 1, .sl 2 [[.i 1, .k .u64 1]] true], [.i 1, .i 5, .i 2, .i 1, .k .u64 1, .v (.slice none 0 0)]] true)] (.p (.sl 6 [[.i 1, .i 5, .i 2, .i 1, .k .u64 1, .sl 2 [] false], [.i 2, .i 5, .i 3, .i 2, .k .u64 1, .sl 2 [[.i 1, .k .u64 1]] false]] false)) := by
    have k := union_w [xa, xa] [xb, xa] false false (by decide) (by decide) (by decide)
    rw [(show mUnion [xa, xa] [xb, xa] = [xa, xb] from rfl)] at k
    exact PCall.ent k (.cons (Ent1.rows (.cons (.cons .refl (.cons .refl (.cons .refl (.cons .refl (.cons .refl (.cons .nil .nil)))))) (.cons (.cons .refl (.cons .refl (.cons .refl (.cons .refl (.cons .refl (.cons .nil .nil)))))) .nil))) (.cons (Ent1.rows (.cons (.cons .refl (.cons .refl (.cons .refl (.cons .refl (.cons .refl (.cons .ex .nil)))))) (.cons (.cons .refl (.cons .refl (.cons .refl (.cons .refl (.cons .refl (.cons .nil .nil)))))) .nil))) .nil))
  haveI : PC Tryz.prog 12 [.p (.sl 6 [[.i 1, .i 5, .i 2, .i 1, .k .u64 1, .v (.slice none 0 0)], [.i 1, .i 5, .i 2, .i 1, .k .u64 1, .v (.slice none 0 0)]] true), .p (.sl 6 [[.i 2, .i 5, .i 3, .i 2, .k .u64 1, .sl 2 [[.i 1, .k .u64 1]] true], [.i 1, .i 5, .i 2, .i 1, .k .u64 1, .v (.slice none 0 0)]] true)] True (.p (.sl 6 [[.i 1, .i 5, .i 2, .i 1, .k .u64 1, .sl 2 [] false], [.i 2, .i 5, .i 3, .i 2, .k .u64 1, .sl 2 [[.i 1, .k .u64 1]] false]] false)) := ⟨fun _ => c6⟩
  have c7 : PCall Tryz.prog 42 [.p (.sl 6 [[.i 1, .i 5, .i 2, .i 1, .k .u64 1, .v (.slice none 0 0)], [.i 2, .i 5, .i 3, .i 2, .k .u64 1, .sl 2 [[.i 1, .k .u64 1]] true], [.i 3, .i 0, .i 0, .i 0, .k .u64 0, .sl 2 [[.i 2, .k .u64 1]] true]] true)] (.p (.sl 2 [[.i 1, .k .u64 1], [.i 2, .k .u64 1]] false)) := by
    have k := mDots_w [xa, xb, xc] false (by decide) (by decide)
    rw [k8] at k
    exact PCall.ent k (.cons (Ent1.rows (.cons (.cons .refl (.cons .refl (.cons .refl (.cons .refl (.cons .refl (.cons .nil .nil)))))) (.cons (.cons .refl (.cons .refl (.cons .refl (.cons .refl (.cons .refl (.cons .ex .nil)))))) (.cons (.cons .refl (.cons .refl (.cons .refl (.cons .refl (.cons .refl (.cons .ex .nil)))))) .nil)))) .nil)
  haveI : PC Tryz.prog 42 [.p (.sl 6 [[.i 1, .i 5, .i 2, .i 1, .k .u64 1, .v (.slice none 0 0)], [.i 2, .i 5, .i 3, .i 2, .k .u64 1, .sl 2 [[.i 1, .k .u64 1]] true], [.i 3, .i 0, .i 0, .i 0, .k .u64 0, .sl 2 [[.i 2, .k .u64 1]] true]] true)] True (.p (.sl 2 [[.i 1, .k .u64 1], [.i 2, .k .u64 1]] false)) := ⟨fun _ => c7⟩
  have c8 : PCall Tryz.prog 43 [.a [.p (.k .u64 1), .p (.k .u64 1), .p (.k .u64 0), .p (.k .u64 0), .p (.k .u64 0), .p (.k .u64 0), .p (.k .u64 0), .p (.k .u64 0), .p (.sl 4 [[.i 5, .i 2, .k .u64 1, .i 3]] false)]] (.p (.b true)) := by
    have k := right_w [1, 1, 0, 0, 0, 0, 0, 0] [(5, 2, 1, 3)] false rfl (by decide)
    rw [k9] at k
    exact PCall.ent k (.cons Ent1.refl .nil)
  haveI : PC Tryz.prog 43 [.a [.p (.k .u64 1), .p (.k .u64 1), .p (.k .u64 0), .p (.k .u64 0), .p (.k .u64 0), .p (.k .u64 0), .p (.k .u64 0), .p (.k .u64 0), .p (.sl 4 [[.i 5, .i 2, .k .u64 1, .i 3]] false)]] True (.p (.b true)) := ⟨fun _ => c8⟩
  clear c0 c1 c2 c3 c4 c5 c6 c7 c8
  as_aux_lemma =>
    repeat' (first
        | refine rnC ?_
        | refine rnSB ?_
        | refine rnG ?_
        | refine rnU ?_
        | ((fail_if_success (refine rnKn ?_)); refine rnP ?_ ?_ <;> (intro hq; try (have hq' := hq; simp only [hqs] at hq')))
        | refine rkC ?_
        | refine rkSB ?_
        | refine rkF ?_
        | refine rkU ?_
        | ((fail_if_success (refine rkKn ?_)); refine rkP ?_ ?_ <;> (intro hq; try (have hq' := hq; simp only [hqs] at hq')))
        | refine stp ?_
        | refine ifT ?_
        | refine ifF ?_
        | (refine ifQ ?_ ?_ <;> (try (intro hn)))
        | (refine ifB ?_ ?_ <;> (intro hq; try (have hq' := hq; simp only [hqs] at hq'))))
    exact rt1 rfl rfl finS_p rfl
instance alive9_i : PC Tryz.prog 9 [] True (.p (.b true)) := ⟨fun _ => alive9_w⟩
end Go.Proofs.YtgiekdhipbikoaaGreat.Ca
namespace Go.Proofs.YtgiekdhipbikoaaGreat.Ca
open Go Go.RowKit Go.Aw Go.Aw.Cart Go.Aw.Ord Go.Sort
set_option linter.unusedVariables false
set_option linter.unusedSimpArgs false
set_option maxRecDepth 8000
set_option maxHeartbeats 4000000
/-- the list turned, from its end on -/
def oth (a : List Evt) (t : Nat) : Nat → List Evt
  | 0 => []
  | j + 1 => oth a t j ++ [a.getD ((a.length - 1 - j + t) % a.length) default]
theorem oth_len (a : List Evt) (t : Nat) : ∀ j, (oth a t j).length = j
  | 0 => rfl
  | j + 1 => by rw [oth, List.length_append, oth_len a t j]; rfl
theorem oth_sub {a : List Evt} {t : Nat} (ha : 0 < a.length) : ∀ j, ∀ x ∈ oth a t j, x ∈ a
  | 0, x, h => by cases h
  | j + 1, x, h => by
    rw [oth, List.mem_append, List.mem_singleton] at h
    rcases h with h | rfl
    · exact oth_sub ha j x h
    · have : (a.length - 1 - j + t) % a.length < a.length := Nat.mod_lt _ ha
      rw [getD_at this]; exact List.getElem_mem _
theorem oth_has {a : List Evt} {t : Nat} : ∀ j k, k < j → a.getD ((a.length - 1 - k + t) % a.length) default ∈ oth a t j
  | j + 1, k, h => by
    rw [oth, List.mem_append, List.mem_singleton]
    by_cases e : k = j
    · exact .inr (by rw [e])
    · exact .inl (oth_has j k (by omega))
theorem oth_all {a : List Evt} {t : Nat} (ht : t < a.length) {x : Evt} (h : x ∈ a) : x ∈ oth a t a.length := by
  obtain ⟨i, hi, rfl⟩ := getD_mem h
  by_cases c : t ≤ i
  · have := oth_has (a := a) (t := t) a.length (a.length - 1 - (i - t)) (by omega)
    rw [show a.length - 1 - (a.length - 1 - (i - t)) + t = i by omega, Nat.mod_eq_of_lt hi] at this
    exact this
  · have := oth_has (a := a) (t := t) a.length (a.length - 1 - (i + a.length - t)) (by omega)
    rw [show a.length - 1 - (a.length - 1 - (i + a.length - t)) + t = i + a.length by omega, Nat.add_mod_right, Nat.mod_eq_of_lt hi] at this
    exact this
theorem mCart_facts (l : List Evt) : (mCart l).1.1.length = 8 ∧ (∀ n ∈ (mCart l).1.1, 0 ≤ n) ∧ (mCart l).1.2.length ≤ 400 := by
  have hz : ∀ n ∈ zeroV, (0 : Int) ≤ n := by decide
  unfold mCart
  split
  · exact ⟨rfl, hz, by simp⟩
  · split
    · exact ⟨rfl, hz, by simp⟩
    · exact ⟨spanTo_len _ _, span_nn _ _, by simp only [sortE_len]; omega⟩
theorem same_self (v : List Int) (l : List Ent) : sameF v v l l = true := by simp [sameF]
open M6
theorem modelOrder_w (a b : List Evt) (ex ey : Bool) (turn : Int) (ha : a.length ≤ maxLen) (hb : b.length ≤ maxLen) (pa : ∀ x ∈ a, (Evt.dot x).2 < 18446744073709551616) (pb : ∀ x ∈ b, (Evt.dot x).2 < 18446744073709551616) : PCall Tryz.prog 3 [.p (.sl 6 (a.map xR) ex), .p (.sl 6 (b.map xR) ey), .p (.i turn)] (.p (.b true)) := by
  refine pcall_of Tryz.func3 rfl (fun w0 F S0 M0 => ?_)
  cases g1 : greatX a with
  | true =>
    as_aux_lemma =>
      repeat' (first
          | refine rnC ?_
          | refine rnSB ?_
          | refine rnG ?_
          | refine rnU ?_
          | ((fail_if_success (refine rnKn ?_)); refine rnP ?_ ?_ <;> (intro hq; try (have hq' := hq; simp only [hqs] at hq')))
          | refine rkC ?_
          | refine rkSB ?_
          | refine rkF ?_
          | refine rkU ?_
          | ((fail_if_success (refine rkKn ?_)); refine rkP ?_ ?_ <;> (intro hq; try (have hq' := hq; simp only [hqs] at hq')))
          | refine stp ?_
          | refine ifT ?_
          | refine ifF ?_
          | (refine ifQ ?_ ?_ <;> (try (intro hn)))
          | (refine ifB ?_ ?_ <;> (intro hq; try (have hq' := hq; simp only [hqs] at hq'))))
      exact rt1 rfl rfl finS_p rfl
  | false =>
  cases g2 : greatX b with
  | true =>
    as_aux_lemma =>
      repeat' (first
          | refine rnC ?_
          | refine rnSB ?_
          | refine rnG ?_
          | refine rnU ?_
          | ((fail_if_success (refine rnKn ?_)); refine rnP ?_ ?_ <;> (intro hq; try (have hq' := hq; simp only [hqs] at hq')))
          | refine rkC ?_
          | refine rkSB ?_
          | refine rkF ?_
          | refine rkU ?_
          | ((fail_if_success (refine rkKn ?_)); refine rkP ?_ ?_ <;> (intro hq; try (have hq' := hq; simp only [hqs] at hq')))
          | refine stp ?_
          | refine ifT ?_
          | refine ifF ?_
          | (refine ifQ ?_ ?_ <;> (try (intro hn)))
          | (refine ifB ?_ ?_ <;> (intro hq; try (have hq' := hq; simp only [hqs] at hq'))))
      exact rt1 rfl rfl finS_p rfl
  | false =>
  by_cases h0 : turn < 0
  · have d1 : decide (turn < 0) = true := decide_eq_true h0
    as_aux_lemma =>
      repeat' (first
          | refine rnC ?_
          | refine rnSB ?_
          | refine rnG ?_
          | refine rnU ?_
          | ((fail_if_success (refine rnKn ?_)); refine rnP ?_ ?_ <;> (intro hq; try (have hq' := hq; simp only [hqs] at hq')))
          | refine rkC ?_
          | refine rkSB ?_
          | refine rkF ?_
          | refine rkU ?_
          | ((fail_if_success (refine rkKn ?_)); refine rkP ?_ ?_ <;> (intro hq; try (have hq' := hq; simp only [hqs] at hq')))
          | refine stp ?_
          | refine ifT ?_
          | refine ifF ?_
          | (refine ifQ ?_ ?_ <;> (try (intro hn)))
          | (refine ifB ?_ ?_ <;> (intro hq; try (have hq' := hq; simp only [hqs] at hq'))))
      exact rt1 rfl rfl finS_p rfl
  have d1 : decide (turn < 0) = false := decide_eq_false h0
  by_cases h1 : (a.length : Int) ≤ turn
  · have d2 : decide ((a.length : Int) ≤ turn) = true := decide_eq_true h1
    as_aux_lemma =>
      repeat' (first
          | refine rnC ?_
          | refine rnSB ?_
          | refine rnG ?_
          | refine rnU ?_
          | ((fail_if_success (refine rnKn ?_)); refine rnP ?_ ?_ <;> (intro hq; try (have hq' := hq; simp only [hqs] at hq')))
          | refine rkC ?_
          | refine rkSB ?_
          | refine rkF ?_
          | refine rkU ?_
          | ((fail_if_success (refine rkKn ?_)); refine rkP ?_ ?_ <;> (intro hq; try (have hq' := hq; simp only [hqs] at hq')))
          | refine stp ?_
          | refine ifT ?_
          | refine ifF ?_
          | (refine ifQ ?_ ?_ <;> (try (intro hn)))
          | (refine ifB ?_ ?_ <;> (intro hq; try (have hq' := hq; simp only [hqs] at hq'))))
      exact rt1 rfl rfl finS_p rfl
  have d2 : decide ((a.length : Int) ≤ turn) = false := decide_eq_false h1
  obtain ⟨a4, ao⟩ := great_not g1
  obtain ⟨b4, bo⟩ := great_not g2
  have ao5 : ∀ x ∈ a, (Evt.off x).length ≤ 100000 := fun x hx => Nat.le_trans (ao x hx) (by decide)
  have bo5 : ∀ x ∈ b, (Evt.off x).length ≤ 100000 := fun x hx => Nat.le_trans (bo x hx) (by decide)
  have ca := mCart_w a ex (by omega) ao5 pa
  have fa := mCart_facts a
  by_cases ea : (mCart a).2 = 0
  case neg =>
    have d3 : decide ((mCart a).2 ≠ 0) = true := decide_eq_true ea
    haveI : PC Tryz.prog 10 [.p (.sl 6 (a.map xR) ex)] True (.tup [.agg (cL (mCart a).1.1 (mCart a).1.2 false), .one (.p (.i (mCart a).2))]) := ⟨fun _ => ca⟩
    clear ca
    as_aux_lemma =>
      repeat' (first
          | refine rnC ?_
          | refine rnSB ?_
          | refine rnG ?_
          | refine rnU ?_
          | ((fail_if_success (refine rnKn ?_)); refine rnP ?_ ?_ <;> (intro hq; try (have hq' := hq; simp only [hqs] at hq')))
          | refine rkC ?_
          | refine rkSB ?_
          | refine rkF ?_
          | refine rkU ?_
          | ((fail_if_success (refine rkKn ?_)); refine rkP ?_ ?_ <;> (intro hq; try (have hq' := hq; simp only [hqs] at hq')))
          | refine stp ?_
          | refine ifT ?_
          | refine ifF ?_
          | (refine ifQ ?_ ?_ <;> (try (intro hn)))
          | (refine ifB ?_ ?_ <;> (intro hq; try (have hq' := hq; simp only [hqs] at hq'))))
      exact rt1 rfl rfl finS_p rfl
  obtain ⟨wa, wl⟩ := cart_is ea
  obtain ⟨t, rfl⟩ : ∃ t : Nat, turn = t := ⟨turn.toNat, by omega⟩
  have ht : t < a.length := by omega
  obtain ⟨m, hm⟩ : ∃ m, m = oth a t a.length ++ [a.getD t default] := ⟨_, rfl⟩
  have ml : m.length = a.length + 1 := by rw [hm, List.length_append, oth_len]; rfl
  have mm : ∀ x, x ∈ a ↔ x ∈ m := fun x => by
    rw [hm, List.mem_append, List.mem_singleton]
    refine ⟨fun h => .inl (oth_all ht h), fun h => h.elim (oth_sub (by omega) _ x) fun e => ?_⟩
    rw [e, getD_at ht]; exact List.getElem_mem _
  have em : mCart m = mCart a := cart_ext (by omega) (by omega) mm wa wl
  have cm := mCart_w m false (by omega) (fun x hx => ao5 x ((mm x).2 hx)) (fun x hx => pa x ((mm x).2 hx))
  rw [em] at cm
  have cb := mCart_w b ey (by omega) bo5 pb
  have fb := mCart_facts b
  have ul := union_len a b
  have cu0 := union_w a b ex ey (by omega) (by omega) (fun x hx => Nat.le_trans ((List.mem_append.1 hx).elim (ao x) (bo x)) (by decide))
  have cu := mCart_w (mUnion a b) false (by omega) (fun x hx => (union_mem.1 hx).elim (ao5 x) (bo5 x)) (fun x hx => (union_mem.1 hx).elim (pa x) (pb x))
  have fu := mCart_facts (mUnion a b)
  have key : (mCart b).2 = 0 → (mCart (mUnion a b)).2 = 0 → twoF (mCart a).1 (mCart b).1 = ((mCart (mUnion a b)).1, 0) := fun h2 h3 => by
    obtain ⟨wb, wl2⟩ := cart_is h2
    obtain ⟨wu, wl3⟩ := cart_is h3
    exact UN.join (a := a) (b := b) (u := mUnion a b) ⟨wa, wb, wu, by omega, by omega, by omega, fun x => union_mem⟩ wl3
  clear wa wl mm em
  generalize mCart a = A at *
  generalize mCart b = B at *
  generalize mCart (mUnion a b) = U at *
  obtain ⟨⟨va, la⟩, za⟩ := A
  obtain ⟨⟨vb, lb⟩, zb⟩ := B
  obtain ⟨⟨vu, lu⟩, zu⟩ := U
  dsimp only at ca cm cb cu fa fb fu ea key
  subst ea
  obtain ⟨fa1, fa2, fa3⟩ := fa
  obtain ⟨fb1, fb2, fb3⟩ := fb
  obtain ⟨fu1, fu2, fu3⟩ := fu
  haveI : PC Tryz.prog 10 [.p (.sl 6 (a.map xR) ex)] True (.tup [.agg (cL va la false), .one (.p (.i 0))]) := ⟨fun _ => ca⟩
  haveI : PC Tryz.prog 10 [.p (.sl 6 (m.map xR) false)] True (.tup [.agg (cL va la false), .one (.p (.i 0))]) := ⟨fun _ => cm⟩
  haveI : PC Tryz.prog 10 [.p (.sl 6 (b.map xR) ey)] True (.tup [.agg (cL vb lb false), .one (.p (.i zb))]) := ⟨fun _ => cb⟩
  haveI : PC Tryz.prog 12 [.p (.sl 6 (a.map xR) ex), .p (.sl 6 (b.map xR) ey)] True (.p (.sl 6 ((mUnion a b).map xR) false)) := ⟨fun _ => cu0⟩
  haveI : PC Tryz.prog 10 [.p (.sl 6 ((mUnion a b).map xR) false)] True (.tup [.agg (cL vu lu false), .one (.p (.i zu))]) := ⟨fun _ => cu⟩
  have s1 := same_w va va la la false false fa1 fa1 (by omega)
  rw [same_self] at s1
  haveI : PC Tryz.prog 11 [cV va la false, cV va la false] True (.p (.b true)) := ⟨fun _ => s1⟩
  have s2 := same_w vu vu lu lu false false fu1 fu1 (by omega)
  rw [same_self] at s2
  haveI : PC Tryz.prog 11 [cV vu lu false, cV vu lu false] True (.p (.b true)) := ⟨fun _ => s2⟩
  have tw := two_w va vb la lb false false fa1 fb1 fa2 (by omega) (by omega)
  clear ca cm cb cu0 cu s1 s2
  repeat' (first
      | refine rnC ?_
      | refine rnSB ?_
      | refine rnG ?_
      | refine rnU ?_
      | ((fail_if_success (refine rnKn ?_)); refine rnP ?_ ?_ <;> (intro hq; try (have hq' := hq; simp only [hqs] at hq')))
      | refine rkC ?_
      | refine rkSB ?_
      | refine rkF ?_
      | refine rkU ?_
      | ((fail_if_success (refine rkKn ?_)); refine rkP ?_ ?_ <;> (intro hq; try (have hq' := hq; simp only [hqs] at hq')))
      | refine stp ?_
      | refine ifT ?_
      | refine ifF ?_
      | (refine ifQ ?_ ?_ <;> (try (intro hn)))
      | (refine ifB ?_ ?_ <;> (intro hq; try (have hq' := hq; simp only [hqs] at hq'))))
  refine aws_says (says_nil (t := 9) (o := 901) (ty := 38) (es := 6) rfl rfl (by decide)) ?_
  refine aws_loopS [9, 10, 47, 48, 49, 50, 51, 52, 53, 54, 55, 56, 57, 58, 59, 60, 61, 62] [901] (fun (x : Int × Nat × List Evt) => [(10, .p (.i x.1)), (9, .o (.osl 901 x.2.1 6 0 x.2.2.length))]) (fun x => [(901, (x.2.1 + 1, some (.buf 38 6 (x.2.2.map xR))))])
    (fun x => -1 ≤ x.1 ∧ x.1 < a.length ∧ x.2.2 = oth a t (a.length - (x.1 + 1).toNat)) (fun x => (x.1 + 1).toNat) ((a.length : Int) - 1, 0, []) ⟨by dsimp only; omega, by dsimp only; omega, by dsimp only; rw [show a.length - ((a.length : Int) - 1 + 1).toNat = 0 by omega]; rfl⟩ (by exact knA) (by exact knA) ?_
  rintro ⟨i, g, l⟩ β γ ⟨hi, hin, hl⟩
  simp only at hi hin hl
  have hll : l.length ≤ 40 := by rw [hl, oth_len]; omega
  dsimp only
  by_cases hi0 : 0 ≤ i
  · have d4 : decide (0 ≤ i) = true := decide_eq_true hi0
    have hm1 : 0 ≤ (i + (t : Int)) % (a.length : Int) := Int.emod_nonneg _ (by omega)
    have hm2 : (i + (t : Int)) % (a.length : Int) < (a.length : Int) := Int.emod_lt_of_pos _ (by omega)
    as_aux_lemma =>
      repeat' (first
          | refine rnC ?_
          | refine rnSB ?_
          | refine rnG ?_
          | refine rnU ?_
          | ((fail_if_success (refine rnKn ?_)); refine rnP ?_ ?_ <;> (intro hq; try (have hq' := hq; simp only [hqs] at hq')))
          | refine rkC ?_
          | refine rkSB ?_
          | refine rkF ?_
          | refine rkU ?_
          | ((fail_if_success (refine rkKn ?_)); refine rkP ?_ ?_ <;> (intro hq; try (have hq' := hq; simp only [hqs] at hq')))
          | refine stp ?_
          | refine ifT ?_
          | refine ifF ?_
          | (refine ifQ ?_ ?_ <;> (try (intro hn)))
          | (refine ifB ?_ ?_ <;> (intro hq; try (have hq' := hq; simp only [hqs] at hq'))))
      refine ⟨(i - 1, g + 1, l ++ [(_, _, _, (_, _), _)]), _, by dsimp only; omega, ⟨by dsimp only; omega, by dsimp only; omega, ?_⟩, .refl, by exact frA⟩
      dsimp only
      rw [show a.length - (i - 1 + 1).toNat = (a.length - (i + 1).toNat) + 1 by omega, oth, ← hl]
      have e : ((i + (t : Int)) % (a.length : Int)).toNat = (a.length - 1 - (a.length - (i + 1).toNat) + t) % a.length := by
        rw [show i + (t : Int) = ((a.length - 1 - (a.length - (i + 1).toNat) + t : Nat) : Int) by omega, ← Int.natCast_emod, Int.toNat_natCast]
      rw [e]
  · have d4 : decide (0 ≤ i) = false := decide_eq_false hi0
    obtain rfl : i = -1 := by omega
    rw [show a.length - ((-1 : Int) + 1).toNat = a.length by omega] at hl
    have hmm : m = l ++ [a.getD (t : Int).toNat default] := by rw [hm, hl, Int.toNat_natCast]
    subst hmm
    have d5 : decide ((0 : Int) ≠ 0) = false := rfl
    repeat' (first
        | refine rnC ?_
        | refine rnSB ?_
        | refine rnG ?_
        | refine rnU ?_
        | refine rkC ?_
        | refine rkSB ?_
        | refine rkF ?_
        | refine rkU ?_
        | refine stp ?_
        | refine ifT ?_
        | refine ifF ?_
        | fail)
    refine rn_says (says_frz (t := 70) (o := 901) rfl rfl rfl (by simp)) rfl ?_
    repeat' (first
        | refine rnC ?_
        | refine rnSB ?_
        | refine rnG ?_
        | refine rnU ?_
        | refine rkC ?_
        | refine rkSB ?_
        | refine rkF ?_
        | refine rkU ?_
        | refine stp ?_
        | refine ifT ?_
        | refine ifF ?_
        | fail)
    by_cases h2 : zb = 0
    · have d6 : decide (zb ≠ 0) = false := decide_eq_false fun q => q h2
      by_cases h3 : zu = 0
      · have d7 : decide (zu ≠ 0) = false := decide_eq_false fun q => q h3
        rw [key h2 h3] at tw
        haveI : PC Tryz.prog 13 [cV va la false, cV vb lb false] True (.tup [.agg (cL vu lu false), .one (.p (.i 0))]) := ⟨fun _ => tw⟩
        clear tw key
        as_aux_lemma =>
          repeat' (first
              | refine rnC ?_
              | refine rnSB ?_
              | refine rnG ?_
              | refine rnU ?_
              | ((fail_if_success (refine rnKn ?_)); refine rnP ?_ ?_ <;> (intro hq; try (have hq' := hq; simp only [hqs] at hq')))
              | refine rkC ?_
              | refine rkSB ?_
              | refine rkF ?_
              | refine rkU ?_
              | ((fail_if_success (refine rkKn ?_)); refine rkP ?_ ?_ <;> (intro hq; try (have hq' := hq; simp only [hqs] at hq')))
              | refine stp ?_
              | refine ifT ?_
              | refine ifF ?_
              | (refine ifQ ?_ ?_ <;> (try (intro hn)))
              | (refine ifB ?_ ?_ <;> (intro hq; try (have hq' := hq; simp only [hqs] at hq'))))
          exact rt1 rfl rfl finS_p rfl
      · have d7 : decide (zu ≠ 0) = true := decide_eq_true h3
        as_aux_lemma =>
          repeat' (first
              | refine rnC ?_
              | refine rnSB ?_
              | refine rnG ?_
              | refine rnU ?_
              | ((fail_if_success (refine rnKn ?_)); refine rnP ?_ ?_ <;> (intro hq; try (have hq' := hq; simp only [hqs] at hq')))
              | refine rkC ?_
              | refine rkSB ?_
              | refine rkF ?_
              | refine rkU ?_
              | ((fail_if_success (refine rkKn ?_)); refine rkP ?_ ?_ <;> (intro hq; try (have hq' := hq; simp only [hqs] at hq')))
              | refine stp ?_
              | refine ifT ?_
              | refine ifF ?_
              | (refine ifQ ?_ ?_ <;> (try (intro hn)))
              | (refine ifB ?_ ?_ <;> (intro hq; try (have hq' := hq; simp only [hqs] at hq'))))
          exact rt1 rfl rfl finS_p rfl
    · have d6 : decide (zb ≠ 0) = true := decide_eq_true h2
      as_aux_lemma =>
        repeat' (first
            | refine rnC ?_
            | refine rnSB ?_
            | refine rnG ?_
            | refine rnU ?_
            | ((fail_if_success (refine rnKn ?_)); refine rnP ?_ ?_ <;> (intro hq; try (have hq' := hq; simp only [hqs] at hq')))
            | refine rkC ?_
            | refine rkSB ?_
            | refine rkF ?_
            | refine rkU ?_
            | ((fail_if_success (refine rkKn ?_)); refine rkP ?_ ?_ <;> (intro hq; try (have hq' := hq; simp only [hqs] at hq')))
            | refine stp ?_
            | refine ifT ?_
            | refine ifF ?_
            | (refine ifQ ?_ ?_ <;> (try (intro hn)))
            | (refine ifB ?_ ?_ <;> (intro hq; try (have hq' := hq; simp only [hqs] at hq'))))
        exact rt1 rfl rfl finS_p rfl
end Go.Proofs.YtgiekdhipbikoaaGreat.Ca
namespace Go.Proofs.YtgiekdhipbikoaaGreat.Ca
open Go Go.RowKit Go.Aw Go.Aw.Cart
set_option linter.unusedVariables false
set_option linter.unusedSimpArgs false
theorem rd_dots9 : Reads Tryz.prog 36 (List Dot) (fun l => [.sl 2 (l.map fun d => dR d) false]) (fun l => l.length ≤ maxLen ∧ ∀ d ∈ l, DB d) :=
  reads_slice inferInstance inferInstance (by decide) rd_dot
def XB (x : Evt) : Prop := DB (Evt.dot x)
theorem rd_evt : Reads Tryz.prog 38 Evt (fun x => xR x) XB :=
  (reads_struct (inferInstance : TI Tryz.prog 38 _ _ _)
    (readsFs_cons (inferInstance : TI Tryz.prog 3 _ _ _) rd_int (readsFs_cons (inferInstance : TI Tryz.prog 3 _ _ _) rd_int (readsFs_cons (inferInstance : TI Tryz.prog 3 _ _ _) rd_int (readsFs_cons (inferInstance : TI Tryz.prog 35 _ _ _) rd_dot (readsFs_cons (inferInstance : TI Tryz.prog 36 _ _ _) rd_dots9 (readsFs_nil rfl))))))).imp
    (fun x => (x.1, x.2.1, x.2.2.1, x.2.2.2.1, x.2.2.2.2.1)) (fun x => rfl) (fun x h => h.2.2.2.1)
theorem rd_evts : Reads Tryz.prog 22 (List Evt) (fun l => [.sl 6 (l.map fun x => xR x) false]) (fun l => l.length ≤ maxLen ∧ ∀ x ∈ l, XB x) :=
  reads_slice inferInstance inferInstance (by decide) rd_evt
theorem modelOrder_a (a b : List Evt) (turn : Int) (ha : a.length ≤ maxLen ∧ ∀ x ∈ a, XB x) (hb : b.length ≤ maxLen ∧ ∀ x ∈ b, XB x) : PCall Tryz.prog 3 [argAV false [.sl 6 (a.map fun x => xR x) false], argAV false [.sl 6 (b.map fun x => xR x) false], argAV false [.i turn]] (.p (.b true)) :=
  modelOrder_w a b false false turn ha.1 hb.1 (fun x hx => (ha.2 x hx).2.2) (fun x hx => (hb.2 x hx).2.2)
end Go.Proofs.YtgiekdhipbikoaaGreat.Ca
