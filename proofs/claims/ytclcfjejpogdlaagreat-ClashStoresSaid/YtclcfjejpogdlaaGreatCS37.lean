/- trees: what an inner place's digest is made of; trees: all digests above a place; trees: a leaf's digest.; trees: with another text; trees: is a tree right?; trees: of texts; trees: what is above; Trees of digests in plain Lean: the laws. Nothing here speaks of a program.; SHA-256: some sums, reckoned by the kernel. Nothing here speaks of a program.; trees, the laws: fixed calls -/
import Derived.Test.YtclcfjejpogdlaaGreatCS36
import Derived.Test.YtclcfjejpogdlaaGreatCS05
import Derived.Test.YtclcfjejpogdlaaGreatCS21
import Derived.Test.YtclcfjejpogdlaaGreatCS18
namespace Go.Proofs.YtclcfjejpogdlaaGreat.Tr
open Go Go.RowKit Go.Aw Go.Aw.Sha Go.Aw.Tree Go.Proofs.YtclcfjejpogdlaaGreat.Sh
set_option linter.unusedVariables false
set_option linter.unusedSimpArgs false
set_option maxRecDepth 8000
attribute [local irreducible] sum
set_option maxHeartbeats 4000000
abbrev tv (T : List Nat) : AV := .a (T.map bc)
theorem belowF_in {T : List Nat} {p : Int} (h : 0 ≤ p ∧ p ≤ 4) : belowF T p = belowTo T p 4 := by unfold belowF; rw [if_pos h]
theorem belowF_out {T : List Nat} {p : Int} (h : ¬ (0 ≤ p ∧ p ≤ 4)) : belowF T p = [] := by unfold belowF; rw [if_neg h]
theorem below_c (T : List Nat) (p : Int) (hT : T.length = 672) : PCall Tryz.prog 189 [tv T, .p (.i p)] (bytesN (belowF T p) false) := by
  refine pcall_of Tryz.func189 rfl (fun w0 F S0 M0 => ?_)
  by_cases hp : 0 ≤ p ∧ p ≤ 4
  · have hkl : (kidsF p).length = 4 := by rw [kidsF_in hp]; rfl
    have hne : decide (((kidsF p).length : Int) = 0) = false := by rw [hkl]; rfl
    rw [belowF_in hp]
    repeat' (first | refine rnO ?_ | refine rnSB ?_ | refine rnG ?_ | refine rnU ?_ | ((fail_if_success (refine rnKn ?_)); refine rnP ?_ ?_ <;> (intro hq; try (have hq' := hq; simp only [hqs] at hq'))) | refine rkO ?_ | refine rkSB ?_ | refine rkF ?_ | refine rkU ?_ | ((fail_if_success (refine rkKn ?_)); refine rkP ?_ ?_ <;> (intro hq; try (have hq' := hq; simp only [hqs] at hq'))) | refine stp ?_ | refine ifT ?_ | refine ifF ?_ | (refine ifQ ?_ ?_ <;> (try (intro hn))) | (refine ifB ?_ ?_ <;> (intro hq; try (have hq' := hq; simp only [hqs] at hq'))))
    refine aws_loopS [6, 8, 17, 18, 19, 20, 21, 22, 23, 24, 25, 26] [14] (fun (x : Nat × List Nat) => [(6, .o (.osl 14 x.1 1 0 x.2.length)), (17, .p (.i x.1))]) (fun x => [(14, (x.1 + 1, some (.buf 5 1 (x.2.map br))))])
      (fun x => x.1 ≤ 4 ∧ x.2 = belowTo T p x.1) (fun x => 4 - x.1) (0, belowTo T p 0) ⟨Nat.zero_le _, rfl⟩ (by exact knA) (by exact knA) ?_
    rintro ⟨i, out⟩ β γ ⟨hi, hout⟩
    simp only at hi hout
    have hol : out.length = 1 + 32 * i := by rw [hout]; exact belowTo_len hT hp i hi
    dsimp only
    by_cases hi4 : i < 4
    · have hk : (kidsF p).getD ((i : Nat) : Int).toNat default = 4 * p + 1 + i := by rw [Int.toNat_natCast]; exact kidsF_get hp hi4
      have hlt : decide ((i : Int) < (kidsF p).length) = true := decide_eq_true (by omega)
      have hrl : (row T (4 * p + 1 + i).toNat).length = 32 := row_len hT (by omega)
      repeat' (first | refine rnB ?_ | refine rnSB ?_ | refine rnG ?_ | refine rnU ?_ | ((fail_if_success (refine rnKn ?_)); refine rnP ?_ ?_ <;> (intro hq; try (have hq' := hq; simp only [hqs] at hq'))) | refine rkB ?_ | refine rkSB ?_ | refine rkF ?_ | refine rkU ?_ | ((fail_if_success (refine rkKn ?_)); refine rkP ?_ ?_ <;> (intro hq; try (have hq' := hq; simp only [hqs] at hq'))) | refine stp ?_ | refine ifT ?_ | refine ifF ?_ | (refine ifQ ?_ ?_ <;> (try (intro hn))) | (refine ifB ?_ ?_ <;> (intro hq; try (have hq' := hq; simp only [hqs] at hq'))))
      apply ex2 (i + 1)
      apply Exists.intro
      refine ⟨?_, ⟨?_, ?_⟩, .refl, ?_⟩
      rotate_left 3
      (focus exact frA)
      · dsimp only; omega
      · dsimp only; omega
      · dsimp only
        rw [hk, hout]; rfl
    · have hlt : decide ((i : Int) < (kidsF p).length) = false := decide_eq_false (by omega)
      repeat' (first | refine rnB ?_ | refine rnSB ?_ | refine rnG ?_ | refine rnU ?_ | ((fail_if_success (refine rnKn ?_)); refine rnP ?_ ?_ <;> (intro hq; try (have hq' := hq; simp only [hqs] at hq'))) | refine rkB ?_ | refine rkSB ?_ | refine rkF ?_ | refine rkU ?_ | ((fail_if_success (refine rkKn ?_)); refine rkP ?_ ?_ <;> (intro hq; try (have hq' := hq; simp only [hqs] at hq'))) | refine stp ?_ | refine ifT ?_ | refine ifF ?_ | (refine ifQ ?_ ?_ <;> (try (intro hn))) | (refine ifB ?_ ?_ <;> (intro hq; try (have hq' := hq; simp only [hqs] at hq'))))
      refine rt1 rfl rfl (.one (finC_map rfl rfl rfl rfl)) (rs ?_)
      rw [hout, show i = 4 by omega]
  · have hne : decide (((kidsF p).length : Int) = 0) = true := by rw [kidsF_out hp]; rfl
    rw [belowF_out hp]
    repeat' (first | refine rnB ?_ | refine rnSB ?_ | refine rnG ?_ | refine rnU ?_ | ((fail_if_success (refine rnKn ?_)); refine rnP ?_ ?_ <;> (intro hq; try (have hq' := hq; simp only [hqs] at hq'))) | refine rkB ?_ | refine rkSB ?_ | refine rkF ?_ | refine rkU ?_ | ((fail_if_success (refine rkKn ?_)); refine rkP ?_ ?_ <;> (intro hq; try (have hq' := hq; simp only [hqs] at hq'))) | refine stp ?_ | refine ifT ?_ | refine ifF ?_ | (refine ifQ ?_ ?_ <;> (try (intro hn))) | (refine ifB ?_ ?_ <;> (intro hq; try (have hq' := hq; simp only [hqs] at hq'))))
    exact rt1 rfl rfl (.one .nil) rfl
instance {T : List Nat} {p : Int} : PC Tryz.prog 189 [tv T, .p (.i p)] (T.length = 672) (bytesN (belowF T p) false) := ⟨below_c T p⟩
end Go.Proofs.YtclcfjejpogdlaaGreat.Tr
namespace Go.Proofs.YtclcfjejpogdlaaGreat.Tr
open Go Go.RowKit Go.Aw Go.Aw.Sha Go.Aw.Tree Go.Proofs.YtclcfjejpogdlaaGreat.Sh
set_option linter.unusedVariables false
set_option linter.unusedSimpArgs false
set_option maxRecDepth 8000
attribute [local irreducible] sum
set_option maxHeartbeats 4000000
end Go.Proofs.YtclcfjejpogdlaaGreat.Tr
namespace Go.Proofs.YtclcfjejpogdlaaGreat.Tr
open Go Go.RowKit Go.Aw Go.Aw.Sha Go.Aw.Tree Go.Proofs.YtclcfjejpogdlaaGreat.Sh
set_option linter.unusedVariables false
set_option linter.unusedSimpArgs false
set_option maxRecDepth 8000
theorem leaf_c (b : List Nat) (ex : Bool) (h : b.length ≤ 400000000) : PCall Tryz.prog 188 [bytesN b ex] (.a ((leafD b).map bc)) := by
  obtain ⟨D, hD⟩ : ∃ D, D = leafD b := ⟨_, rfl⟩
  have hl : D.length = 32 := by rw [hD]; exact leafD_len b
  rw [← hD]
  refine pcall_of Tryz.func188 rfl (fun w0 F S0 M0 => ?_)
  haveI : PC Tryz.prog 19 [.p (.sl 1 [[.sl 1 [[.v (.int .u8 0)]] true], [bytesP b ex]] true)] True (.a (D.map bc)) := ⟨fun _ => by rw [hD]; exact PC.call (by omega : b.length ≤ 400000000)⟩
  repeat' (first | refine rnA ?_ | refine rnS ?_ | refine rnG ?_ | refine rnU ?_ | ((fail_if_success (refine rnKn ?_)); refine rnP ?_ ?_ <;> (intro hq; try (have hq' := hq; simp only [hqs] at hq'))) | refine rkA ?_ | refine rkS ?_ | refine rkF ?_ | refine rkU ?_ | ((fail_if_success (refine rkKn ?_)); refine rkP ?_ ?_ <;> (intro hq; try (have hq' := hq; simp only [hqs] at hq'))) | refine stp ?_ | refine aws_draws [] mixed (by kernel_rfl) ?_ | refine ifT ?_ | refine ifF ?_ | (refine ifQ ?_ ?_ <;> (try (intro hn))) | (refine ifB ?_ ?_ <;> (intro hq; try (have hq' := hq; simp only [hqs] at hq'))))
  exact rc1 rfl rfl rfl rfl rfl (by simpa using hl) finL_p rfl
instance {b : List Nat} {ex : Bool} : PC Tryz.prog 188 [bytesN b ex] (b.length ≤ 400000000) (.a ((leafD b).map bc)) := ⟨leaf_c b ex⟩
end Go.Proofs.YtclcfjejpogdlaaGreat.Tr
namespace Go.Proofs.YtclcfjejpogdlaaGreat.Tr
open Go Go.RowKit Go.Aw Go.Aw.Sha Go.Aw.Tree Go.Proofs.YtclcfjejpogdlaaGreat.Sh
set_option linter.unusedVariables false
set_option linter.unusedSimpArgs false
set_option maxRecDepth 8000
attribute [local irreducible] sum
set_option maxHeartbeats 4000000
end Go.Proofs.YtclcfjejpogdlaaGreat.Tr
namespace Go.Proofs.YtclcfjejpogdlaaGreat.Tr
open Go Go.RowKit Go.Aw Go.Aw.Sha Go.Aw.Tree Go.Proofs.YtclcfjejpogdlaaGreat.Sh
set_option linter.unusedVariables false
set_option linter.unusedSimpArgs false
set_option maxRecDepth 8000
attribute [local irreducible] sum
set_option maxHeartbeats 4000000
end Go.Proofs.YtclcfjejpogdlaaGreat.Tr
namespace Go.Proofs.YtclcfjejpogdlaaGreat.Tr
open Go Go.RowKit Go.Aw Go.Aw.Sha Go.Aw.Tree Go.Proofs.YtclcfjejpogdlaaGreat.Sh
set_option linter.unusedVariables false
set_option linter.unusedSimpArgs false
set_option maxRecDepth 8000
attribute [local irreducible] sum
set_option maxHeartbeats 4000000
abbrev txs (ls : List (List Nat)) : AV := .a (ls.map fun b => .p (bytesP b false))
def few (ls : List (List Nat)) : Prop := ls.length = 16 ∧ ∀ b ∈ ls, b.length ≤ 400000000
theorem few_get {ls : List (List Nat)} (h : few ls) (i : Nat) : (ls.getD i default).length ≤ 400000000 := by
  rw [List.getD_eq_getElem?_getD]
  cases hx : ls[i]? with
  | none => exact Nat.zero_le _
  | some x => exact h.2 x (List.mem_of_getElem? hx)
theorem of_c (ls : List (List Nat)) (h : few ls) : PCall Tryz.prog 90 [txs ls] (tv (ofF ls)) := by
  refine pcall_of Tryz.func90 rfl (fun w0 F S0 M0 => ?_)
  have hl16 := h.1
  repeat' (first | refine rnB ?_ | refine rnSB ?_ | refine rnG ?_ | refine rnU ?_ | ((fail_if_success (refine rnKn ?_)); refine rnP ?_ ?_ <;> (intro hq; try (have hq' := hq; simp only [hqs] at hq'))) | refine rkB ?_ | refine rkSB ?_ | refine rkF ?_ | refine rkU ?_ | ((fail_if_success (refine rkKn ?_)); refine rkP ?_ ?_ <;> (intro hq; try (have hq' := hq; simp only [hqs] at hq'))) | refine stp ?_ | refine ifT ?_ | refine ifF ?_ | (refine ifQ ?_ ?_ <;> (try (intro hn))) | (refine ifB ?_ ?_ <;> (intro hq; try (have hq' := hq; simp only [hqs] at hq'))))
  refine aws_loopS [4, 5, 8, 9, 10, 11, 12, 13, 14, 15, 16, 17] [3] (fun (i : Nat) => [(8, .p (.i i))]) (fun i => [(3, (1, some (.box 37 ((leavesTo ls i).map bc))))])
    (fun i => i ≤ 16) (fun i => 16 - i) 0 (Nat.zero_le _) (by exact knA) (by exact knA) ?_
  · rintro i β γ hi
    have hfl := few_get h (i : Int).toNat
    have hll := leavesTo_len ls i hi
    have hdl : (leafD (ls.getD (i : Int).toNat default)).length = 32 := leafD_len _
    by_cases hi16 : i < 16
    · have hd : decide ((i : Int) < 16) = true := decide_eq_true (by omega)
      repeat' (first | refine rnB ?_ | refine rnSB ?_ | refine rnG ?_ | refine rnU ?_ | ((fail_if_success (refine rnKn ?_)); refine rnP ?_ ?_ <;> (intro hq; try (have hq' := hq; simp only [hqs] at hq'))) | refine rkB ?_ | refine rkSB ?_ | refine rkF ?_ | refine rkU ?_ | ((fail_if_success (refine rkKn ?_)); refine rkP ?_ ?_ <;> (intro hq; try (have hq' := hq; simp only [hqs] at hq'))) | refine stp ?_ | refine ifT ?_ | refine ifF ?_ | (refine ifQ ?_ ?_ <;> (try (intro hn))) | (refine ifB ?_ ?_ <;> (intro hq; try (have hq' := hq; simp only [hqs] at hq'))))
      refine ⟨i + 1, _, by omega, by omega, .refl, ?_⟩
      have e : leavesTo ls (i + 1) = setRow 32 (leavesTo ls i) (5 + (i : Int)).toNat (leafD (ls.getD (i : Int).toNat default)) := by
        rw [leavesTo, Int.toNat_natCast]; congr 1
      rw [e]
      exact frA
    · have hd : decide ((i : Int) < 16) = false := decide_eq_false (by omega)
      have hof : ofF ls = innerTo (leavesTo ls i) 5 := by rw [show i = 16 by omega]; rfl
      clear hdl hfl
      rw [hof]
      generalize leavesTo ls i = L at hll ⊢
      repeat' (first | refine rnB ?_ | refine rnSB ?_ | refine rnG ?_ | refine rnU ?_ | ((fail_if_success (refine rnKn ?_)); refine rnP ?_ ?_ <;> (intro hq; try (have hq' := hq; simp only [hqs] at hq'))) | refine rkB ?_ | refine rkSB ?_ | refine rkF ?_ | refine rkU ?_ | ((fail_if_success (refine rkKn ?_)); refine rkP ?_ ?_ <;> (intro hq; try (have hq' := hq; simp only [hqs] at hq'))) | refine stp ?_ | refine ifT ?_ | refine ifF ?_ | (refine ifQ ?_ ?_ <;> (try (intro hn))) | (refine ifB ?_ ?_ <;> (intro hq; try (have hq' := hq; simp only [hqs] at hq'))))
      refine aws_loopS [6, 18, 19, 20, 21, 22, 23, 24, 25, 26, 27, 28] [3] (fun (x : Nat × Int) => [(6, .p (.i x.2))]) (fun x => [(3, (1, some (.box 37 ((innerTo L x.1).map bc))))])
        (fun x => x.1 ≤ 5 ∧ x.2 = 4 - (x.1 : Int)) (fun x => 5 - x.1) (0, 4) ⟨Nat.zero_le _, rfl⟩ (by exact knA) (by exact knA) ?_
      rintro ⟨k, t⟩ β γ ⟨hk, ht⟩
      simp only at hk ht
      have hil := innerTo_len hll k
      have hbl := belowF_len (T := innerTo L k) (p := t) hil
      have hsl : (sum (belowF (innerTo L k) t)).length = 32 := sumLen _
      dsimp only
      by_cases hk5 : k < 5
      · have hd : decide (0 ≤ t) = true := decide_eq_true (by omega)
        repeat' (first | refine rnB ?_ | refine rnSB ?_ | refine rnG ?_ | refine rnU ?_ | ((fail_if_success (refine rnKn ?_)); refine rnP ?_ ?_ <;> (intro hq; try (have hq' := hq; simp only [hqs] at hq'))) | refine rkB ?_ | refine rkSB ?_ | refine rkF ?_ | refine rkU ?_ | ((fail_if_success (refine rkKn ?_)); refine rkP ?_ ?_ <;> (intro hq; try (have hq' := hq; simp only [hqs] at hq'))) | refine stp ?_ | refine ifT ?_ | refine ifF ?_ | (refine ifQ ?_ ?_ <;> (try (intro hn))) | (refine ifB ?_ ?_ <;> (intro hq; try (have hq' := hq; simp only [hqs] at hq'))))
        refine ⟨(k + 1, t - 1), _, by dsimp only; omega, ⟨by dsimp only; omega, by dsimp only; omega⟩, .refl, ?_⟩
        have e : innerTo L (k + 1) = setRow 32 (innerTo L k) t.toNat (sum (belowF (innerTo L k) t)) := by
          obtain rfl : t = ((4 - k : Nat) : Int) := by omega
          rw [innerTo, fixF, Int.toNat_natCast]
        dsimp only
        rw [e]
        exact frA
      · have hd : decide (0 ≤ t) = false := decide_eq_false (by omega)
        have hk5' : innerTo L 5 = innerTo L k := by rw [show k = 5 by omega]
        rw [hk5']
        repeat' (first | refine rnB ?_ | refine rnSB ?_ | refine rnG ?_ | refine rnU ?_ | ((fail_if_success (refine rnKn ?_)); refine rnP ?_ ?_ <;> (intro hq; try (have hq' := hq; simp only [hqs] at hq'))) | refine rkB ?_ | refine rkSB ?_ | refine rkF ?_ | refine rkU ?_ | ((fail_if_success (refine rkKn ?_)); refine rkP ?_ ?_ <;> (intro hq; try (have hq' := hq; simp only [hqs] at hq'))) | refine stp ?_ | refine ifT ?_ | refine ifF ?_ | (refine ifQ ?_ ?_ <;> (try (intro hn))) | (refine ifB ?_ ?_ <;> (intro hq; try (have hq' := hq; simp only [hqs] at hq'))))
        exact rc1 rfl rfl rfl rfl rfl (by simpa using hil) finL_p rfl
instance {ls : List (List Nat)} : PC Tryz.prog 90 [txs ls] (few ls) (tv (ofF ls)) := ⟨of_c ls⟩
end Go.Proofs.YtclcfjejpogdlaaGreat.Tr
namespace Go.Proofs.YtclcfjejpogdlaaGreat.Tr
open Go Go.RowKit Go.Aw Go.Aw.Sha Go.Aw.Tree Go.Proofs.YtclcfjejpogdlaaGreat.Sh
set_option linter.unusedVariables false
set_option linter.unusedSimpArgs false
set_option maxRecDepth 8000
end Go.Proofs.YtclcfjejpogdlaaGreat.Tr
namespace Go.Aw.Tree
open Go.Aw Go.Aw.Sha
set_option linter.unusedVariables false
set_option linter.unusedSimpArgs false
attribute [local irreducible] sum
theorem row_fix {T : List Nat} {p : Nat} (h : T.length = 672) (hp : p < 21) : row (fixF T p) p = sum (belowF T p) := rowOf_setRow (by omega) (sumLen _)
theorem row_fix_ne {T : List Nat} {p q : Nat} (h : T.length = 672) (hp : p < 21) (hq : q ≠ p) : row (fixF T p) q = row T q := rowOf_setRow_ne (by omega) (sumLen _) hq
theorem belowTo_congr {T U : List Nat} {p : Int} (h : ∀ i : Nat, i < 4 → row T (4 * p + 1 + i).toNat = row U (4 * p + 1 + i).toNat) : ∀ k, k ≤ 4 → belowTo T p k = belowTo U p k
  | 0, _ => rfl
  | k + 1, hk => by rw [belowTo, belowTo, belowTo_congr h k (by omega), h k (by omega)]
theorem below_congr {T U : List Nat} {p : Nat} (h : ∀ i : Nat, i < 4 → row T (4 * p + 1 + i) = row U (4 * p + 1 + i)) : belowF T p = belowF U p := by
  unfold belowF
  rw [belowTo_congr (fun i hi => ?_) 4 (by omega)]
  rw [show (4 * (p : Int) + 1 + i).toNat = 4 * p + 1 + i by omega]; exact h i hi
theorem below_fix {T : List Nat} {p q : Nat} (h : T.length = 672) (hq : q < 21) (hpq : q < 4 * p + 1 ∨ 4 * p + 4 < q) : belowF (fixF T q) p = belowF T p :=
  below_congr fun i hi => row_fix_ne h hq (by omega)
theorem inner_row {T : List Nat} (h : T.length = 672) {r : Nat} (hr : 5 ≤ r) : ∀ k, row (innerTo T k) r = row T r
  | 0 => rfl
  | k + 1 => by rw [innerTo, row_fix_ne (innerTo_len h k) (by omega) (by omega), inner_row h hr k]
theorem inner_right {T : List Nat} (h : T.length = 672) : ∀ k, k ≤ 5 → ∀ p, 5 - k ≤ p → p < 5 → row (innerTo T k) p = sum (belowF (innerTo T k) p)
  | 0, _, p, h1, h2 => by omega
  | k + 1, hk, p, h1, h2 => by
    have hl := innerTo_len h k
    rw [innerTo]
    rw [below_fix hl (by omega) (.inl (by omega))]
    by_cases hp : p = 4 - k
    · subst hp; rw [row_fix hl (by omega)]
    · rw [row_fix_ne hl (by omega) hp]; exact inner_right h k (by omega) p (by omega) h2
theorem right_inner {T : List Nat} (h : T.length = 672) : rightF (innerF T) = true := decide_eq_true fun p hp => inner_right h 5 (by omega) p (by omega) hp
theorem right_row {T : List Nat} (h : rightF T = true) {p : Nat} (hp : p < 5) : row T p = sum (belowF T p) := (of_decide_eq_true h : okTo T 5) p hp
theorem leaves_row (ls : List (List Nat)) : ∀ k, k ≤ 16 → ∀ i, i < k → row (leavesTo ls k) (5 + i) = leafD (ls.getD i default)
  | 0, _, i, h => by omega
  | k + 1, hk, i, h => by
    have hl := leavesTo_len ls k (by omega)
    rw [leavesTo]
    by_cases e : i = k
    · subst e; exact rowOf_setRow (by omega) (leafD_len _)
    · rw [row, rowOf_setRow_ne (by omega) (leafD_len _) (by omega)]; exact leaves_row ls k (by omega) i (by omega)
theorem of_row (ls : List (List Nat)) {i : Nat} (h : i < 16) : row (ofF ls) (5 + i) = leafD (ls.getD i default) := by
  unfold ofF innerF; rw [inner_row (leavesTo_len ls 16 (by omega)) (by omega), leaves_row ls 16 (by omega) i h]
theorem of_right (ls : List (List Nat)) : rightF (ofF ls) = true := right_inner (leavesTo_len ls 16 (by omega))
section withs
variable {T : List Nat} {n : Nat} {b : List Nat}
end withs
theorem below4 {T : List Nat} {p : Nat} (hp : p ≤ 4) : belowF T p = [1] ++ row T (4 * p + 1) ++ row T (4 * p + 2) ++ row T (4 * p + 3) ++ row T (4 * p + 4) := by
  unfold belowF
  rw [if_pos (by omega)]
  simp only [belowTo]
  rw [show (4 * (p : Int) + 1 + (0 : Nat)).toNat = 4 * p + 1 by omega, show (4 * (p : Int) + 1 + (1 : Nat)).toNat = 4 * p + 2 by omega, show (4 * (p : Int) + 1 + (2 : Nat)).toNat = 4 * p + 3 by omega, show (4 * (p : Int) + 1 + (3 : Nat)).toNat = 4 * p + 4 by omega]
end Go.Aw.Tree
namespace Go.Aw.Sha
set_option linter.unusedVariables false
set_option linter.unusedSimpArgs false
set_option maxRecDepth 100000
def k_d0 : List Nat := [110, 52, 11, 156, 255, 179, 122, 152, 156, 165, 68, 230, 187, 120, 10, 44, 120, 144, 29, 63, 179, 55, 56, 118, 133, 17, 163, 6, 23, 175, 160, 29]
def k_dx : List Nat := [60, 126, 155, 201, 48, 220, 147, 240, 31, 166, 153, 133, 239, 36, 45, 159, 158, 134, 31, 60, 83, 85, 170, 36, 206, 94, 244, 180, 184, 167, 12, 203]
def k_d1 : List Nat := [61, 152, 27, 166, 100, 234, 31, 54, 218, 48, 102, 189, 149, 118, 183, 26, 29, 3, 165, 0, 95, 59, 219, 179, 88, 22, 97, 45, 15, 7, 140, 24]
def k_d1x : List Nat := [102, 123, 221, 182, 33, 238, 20, 74, 216, 248, 3, 194, 246, 90, 64, 41, 219, 102, 67, 252, 220, 177, 89, 37, 110, 68, 173, 34, 54, 101, 27, 36]
def k_r : List Nat := [223, 120, 159, 7, 224, 114, 144, 222, 181, 63, 117, 247, 15, 115, 197, 134, 38, 132, 186, 86, 194, 70, 20, 107, 62, 236, 150, 67, 91, 64, 143, 15]
def k_rx : List Nat := [182, 37, 136, 178, 86, 184, 241, 99, 36, 127, 133, 61, 139, 217, 139, 28, 74, 124, 252, 182, 77, 247, 140, 208, 86, 142, 85, 124, 131, 42, 112, 162]
theorem kv_d0 : sum [0] = k_d0 := by decide +kernel
theorem kv_dx : sum [0, 120] = k_dx := by decide +kernel
theorem kv_d1 : sum ([1] ++ k_d0 ++ k_d0 ++ k_d0 ++ k_d0) = k_d1 := by decide +kernel
theorem kv_d1x : sum ([1] ++ k_d0 ++ k_d0 ++ k_d0 ++ k_dx) = k_d1x := by decide +kernel
theorem kv_r : sum ([1] ++ k_d1 ++ k_d1 ++ k_d1 ++ k_d1) = k_r := by decide +kernel
theorem kv_rx : sum ([1] ++ k_d1x ++ k_d1 ++ k_d1 ++ k_d1) = k_rx := by decide +kernel
theorem kv_ne : k_r ≠ k_rx := by decide
end Go.Aw.Sha
namespace Go.Proofs.YtclcfjejpogdlaaGreat.Tr
open Go Go.RowKit Go.Aw Go.Aw.Sha Go.Aw.Tree Go.Proofs.YtclcfjejpogdlaaGreat.Sh
set_option linter.unusedVariables false
set_option linter.unusedSimpArgs false
set_option maxRecDepth 8000
set_option maxHeartbeats 4000000
attribute [local irreducible] sum
end Go.Proofs.YtclcfjejpogdlaaGreat.Tr
