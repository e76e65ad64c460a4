/- trees: what an inner place's digest is made of; trees: all digests above a place; trees: a leaf's digest.; trees: with another text; trees: is a tree right? -/
import Derived.Test.YtlaeldgebecppaaGreatPT41
import Derived.Test.YtlaeldgebecppaaGreatPT05
import Derived.Test.YtlaeldgebecppaaGreatPT24
namespace Go.Proofs.YtlaeldgebecppaaGreat.Tr
open Go Go.RowKit Go.Aw Go.Aw.Sha Go.Aw.Tree Go.Proofs.YtlaeldgebecppaaGreat.Sh
set_option linter.unusedVariables false
set_option linter.unusedSimpArgs false
set_option maxRecDepth 8000
attribute [local irreducible] sum
set_option maxHeartbeats 4000000
abbrev tv (T : List Nat) : AV := .a (T.map bc)
theorem belowF_in {T : List Nat} {p : Int} (h : 0 ≤ p ∧ p ≤ 4) : belowF T p = belowTo T p 4 := by unfold belowF; rw [if_pos h]
theorem belowF_out {T : List Nat} {p : Int} (h : ¬ (0 ≤ p ∧ p ≤ 4)) : belowF T p = [] := by unfold belowF; rw [if_neg h]
theorem below_c (T : List Nat) (p : Int) (hT : T.length = 672) : PCall Tryz.prog 72 [tv T, .p (.i p)] (bytesN (belowF T p) false) := by
  refine pcall_of Tryz.func72 rfl (fun w0 F S0 M0 => ?_)
  by_cases hp : 0 ≤ p ∧ p ≤ 4
  · have hkl : (kidsF p).length = 4 := by rw [kidsF_in hp]; rfl
    have hne : decide (((kidsF p).length : Int) = 0) = false := by rw [hkl]; rfl
    rw [belowF_in hp]
    repeat' (first | refine rnO ?_ | refine rnSB ?_ | refine rnG ?_ | refine rnU ?_ | ((fail_if_success (refine rnKn ?_)); refine rnP ?_ ?_ <;> (intro hq; try (have hq' := hq; simp only [hqs] at hq'))) | refine rkO ?_ | refine rkSB ?_ | refine rkF ?_ | refine rkU ?_ | ((fail_if_success (refine rkKn ?_)); refine rkP ?_ ?_ <;> (intro hq; try (have hq' := hq; simp only [hqs] at hq'))) | refine stp ?_ | refine ifT ?_ | refine ifF ?_ | (refine ifQ ?_ ?_ <;> (try (intro hn))) | (refine ifB ?_ ?_ <;> (intro hq; try (have hq' := hq; simp only [hqs] at hq'))))
    refine aws_loopS [6, 8, 17, 18, 19, 20, 21, 22, 23, 24, 25, 26] [14] (fun (x : Nat × List Nat) => [(6, .o (.osl 14 x.1 1 0 x.2.length)), (17, .p (.i x.1))]) (fun x => [(14, (x.1 + 1, some (.buf 5 1 (x.2.map br))))])
      (fun x => x.1 ≤ 4 ∧ x.2 = belowTo T p x.1) (fun x => 4 - x.1) (0, belowTo T p 0) ⟨Nat.zero_le _, rfl⟩ (by exact knA) (by exact knA) ?_
    rintro ⟨i, out⟩ β γ ⟨hi, hout⟩
    simp only at hi hout
    have hol : out.length = 1 + 32 * i := by rw [hout]; exact belowTo_len hT hp i hi
    dsimp only
    by_cases hi4 : i < 4
    · have hk : (kidsF p).getD ((i : Nat) : Int).toNat default = 4 * p + 1 + i := by rw [Int.toNat_natCast]; exact kidsF_get hp hi4
      have hlt : decide ((i : Int) < (kidsF p).length) = true := decide_eq_true (by omega)
      have hrl : (row T (4 * p + 1 + i).toNat).length = 32 := row_len hT (by omega)
      repeat' (first | refine rnB ?_ | refine rnSB ?_ | refine rnG ?_ | refine rnU ?_ | ((fail_if_success (refine rnKn ?_)); refine rnP ?_ ?_ <;> (intro hq; try (have hq' := hq; simp only [hqs] at hq'))) | refine rkB ?_ | refine rkSB ?_ | refine rkF ?_ | refine rkU ?_ | ((fail_if_success (refine rkKn ?_)); refine rkP ?_ ?_ <;> (intro hq; try (have hq' := hq; simp only [hqs] at hq'))) | refine stp ?_ | refine ifT ?_ | refine ifF ?_ | (refine ifQ ?_ ?_ <;> (try (intro hn))) | (refine ifB ?_ ?_ <;> (intro hq; try (have hq' := hq; simp only [hqs] at hq'))))
      apply ex2 (i + 1)
      apply Exists.intro
      refine ⟨?_, ⟨?_, ?_⟩, .refl, ?_⟩
      rotate_left 3
      (focus exact frA)
      · dsimp only; omega
      · dsimp only; omega
      · dsimp only
        rw [hk, hout]; rfl
    · have hlt : decide ((i : Int) < (kidsF p).length) = false := decide_eq_false (by omega)
      repeat' (first | refine rnB ?_ | refine rnSB ?_ | refine rnG ?_ | refine rnU ?_ | ((fail_if_success (refine rnKn ?_)); refine rnP ?_ ?_ <;> (intro hq; try (have hq' := hq; simp only [hqs] at hq'))) | refine rkB ?_ | refine rkSB ?_ | refine rkF ?_ | refine rkU ?_ | ((fail_if_success (refine rkKn ?_)); refine rkP ?_ ?_ <;> (intro hq; try (have hq' := hq; simp only [hqs] at hq'))) | refine stp ?_ | refine ifT ?_ | refine ifF ?_ | (refine ifQ ?_ ?_ <;> (try (intro hn))) | (refine ifB ?_ ?_ <;> (intro hq; try (have hq' := hq; simp only [hqs] at hq'))))
      refine rt1 rfl rfl (.one (finC_map rfl rfl rfl rfl)) (rs ?_)
      rw [hout, show i = 4 by omega]
  · have hne : decide (((kidsF p).length : Int) = 0) = true := by rw [kidsF_out hp]; rfl
    rw [belowF_out hp]
    repeat' (first | refine rnB ?_ | refine rnSB ?_ | refine rnG ?_ | refine rnU ?_ | ((fail_if_success (refine rnKn ?_)); refine rnP ?_ ?_ <;> (intro hq; try (have hq' := hq; simp only [hqs] at hq'))) | refine rkB ?_ | refine rkSB ?_ | refine rkF ?_ | refine rkU ?_ | ((fail_if_success (refine rkKn ?_)); refine rkP ?_ ?_ <;> (intro hq; try (have hq' := hq; simp only [hqs] at hq'))) | refine stp ?_ | refine ifT ?_ | refine ifF ?_ | (refine ifQ ?_ ?_ <;> (try (intro hn))) | (refine ifB ?_ ?_ <;> (intro hq; try (have hq' := hq; simp only [hqs] at hq'))))
    exact rt1 rfl rfl (.one .nil) rfl
instance {T : List Nat} {p : Int} : PC Tryz.prog 72 [tv T, .p (.i p)] (T.length = 672) (bytesN (belowF T p) false) := ⟨below_c T p⟩
end Go.Proofs.YtlaeldgebecppaaGreat.Tr
namespace Go.Proofs.YtlaeldgebecppaaGreat.Tr
open Go Go.RowKit Go.Aw Go.Aw.Sha Go.Aw.Tree Go.Proofs.YtlaeldgebecppaaGreat.Sh
set_option linter.unusedVariables false
set_option linter.unusedSimpArgs false
set_option maxRecDepth 8000
attribute [local irreducible] sum
set_option maxHeartbeats 4000000
theorem ups_c (T : List Nat) (p : Int) (hT : T.length = 672 ∧ p ≤ 4) : PCall Tryz.prog 140 [tv T, .p (.i p)] (tv (upsF T p)) := by
  refine pcall_of Tryz.func140 rfl (fun w0 F S0 M0 => ?_)
  repeat' (first | refine rnB ?_ | refine rnSB ?_ | refine rnG ?_ | refine rnU ?_ | ((fail_if_success (refine rnKn ?_)); refine rnP ?_ ?_ <;> (intro hq; try (have hq' := hq; simp only [hqs] at hq'))) | refine rkB ?_ | refine rkSB ?_ | refine rkF ?_ | refine rkU ?_ | ((fail_if_success (refine rkKn ?_)); refine rkP ?_ ?_ <;> (intro hq; try (have hq' := hq; simp only [hqs] at hq'))) | refine stp ?_ | refine ifT ?_ | refine ifF ?_ | (refine ifQ ?_ ?_ <;> (try (intro hn))) | (refine ifB ?_ ?_ <;> (intro hq; try (have hq' := hq; simp only [hqs] at hq'))))
  refine aws_scopeL [1, 5, 6, 7, 8, 9, 10, 11, 12, 13, 14, 15, 16] [2, 4] (fun (x : List Nat × Int) => [(1, .p (.i x.2))]) (fun x => [(2, (1, some (.box 46 (x.1.map bc)))), (4, (1, some (.box 46 ((List.replicate 672 (Value.int .u8 0)).map fun v => .p (.v v)))))])
    (fun x => x.1.length = 672 ∧ x.2 ≤ 4 ∧ upsF x.1 x.2 = upsF T p) (fun x => (x.2 + 1).toNat) (T, p) ⟨hT.1, hT.2, rfl⟩ (by exact knA) (by exact knA) ?_
  rintro ⟨U, q⟩ β γ ⟨hU, hq4, hup⟩
  simp only at hU hq4 hup
  dsimp only
  by_cases hq0 : q < 0
  · have hd : decide (q < 0) = true := decide_eq_true hq0
    repeat' (first | refine rnB ?_ | refine rnSB ?_ | refine rnG ?_ | refine rnU ?_ | ((fail_if_success (refine rnKn ?_)); refine rnP ?_ ?_ <;> (intro hq; try (have hq' := hq; simp only [hqs] at hq'))) | refine rkB ?_ | refine rkSB ?_ | refine rkF ?_ | refine rkU ?_ | ((fail_if_success (refine rkKn ?_)); refine rkP ?_ ?_ <;> (intro hq; try (have hq' := hq; simp only [hqs] at hq'))) | refine stp ?_ | refine ifT ?_ | refine ifF ?_ | (refine ifQ ?_ ?_ <;> (try (intro hn))) | (refine ifB ?_ ?_ <;> (intro hq; try (have hq' := hq; simp only [hqs] at hq'))))
    refine rc1 rfl rfl rfl rfl rfl (by simpa using hU) finL_p ?_
    rw [← hup, upsF_out hq0]
  · have hd : decide (q < 0) = false := decide_eq_false hq0
    have hbl := belowF_len (T := U) (p := q) hU
    have hsl : (sum (belowF U q)).length = 32 := sumLen _
    repeat' (first | refine rnB ?_ | refine rnSB ?_ | refine rnG ?_ | refine rnU ?_ | ((fail_if_success (refine rnKn ?_)); refine rnP ?_ ?_ <;> (intro hq; try (have hq' := hq; simp only [hqs] at hq'))) | refine rkB ?_ | refine rkSB ?_ | refine rkF ?_ | refine rkU ?_ | ((fail_if_success (refine rkKn ?_)); refine rkP ?_ ?_ <;> (intro hq; try (have hq' := hq; simp only [hqs] at hq'))) | refine stp ?_ | refine ifT ?_ | refine ifF ?_ | (refine ifQ ?_ ?_ <;> (try (intro hn))) | (refine ifB ?_ ?_ <;> (intro hq; try (have hq' := hq; simp only [hqs] at hq'))))
    refine ⟨rfl, (fixF U q.toNat, upF q), _, upF_dec (by omega), ⟨fixF_len hU (by omega), upF_le, by rw [← hup, ← upsF_step (by omega)]⟩, .refl, ?_⟩
    have e := fixF_int (T := U) (q := q) (by omega)
    dsimp only
    rw [e]
    exact frA
instance {T : List Nat} {p : Int} : PC Tryz.prog 140 [tv T, .p (.i p)] (T.length = 672 ∧ p ≤ 4) (tv (upsF T p)) := ⟨ups_c T p⟩
end Go.Proofs.YtlaeldgebecppaaGreat.Tr
namespace Go.Proofs.YtlaeldgebecppaaGreat.Tr
open Go Go.RowKit Go.Aw Go.Aw.Sha Go.Aw.Tree Go.Proofs.YtlaeldgebecppaaGreat.Sh
set_option linter.unusedVariables false
set_option linter.unusedSimpArgs false
set_option maxRecDepth 8000
theorem leaf_c (b : List Nat) (ex : Bool) (h : b.length ≤ 400000000) : PCall Tryz.prog 139 [bytesN b ex] (.a ((leafD b).map bc)) := by
  obtain ⟨D, hD⟩ : ∃ D, D = leafD b := ⟨_, rfl⟩
  have hl : D.length = 32 := by rw [hD]; exact leafD_len b
  rw [← hD]
  refine pcall_of Tryz.func139 rfl (fun w0 F S0 M0 => ?_)
  haveI : PC Tryz.prog 71 [.p (.sl 1 [[.sl 1 [[.v (.int .u8 0)]] true], [bytesP b ex]] true)] True (.a (D.map bc)) := ⟨fun _ => by rw [hD]; exact PC.call (by omega : b.length ≤ 400000000)⟩
  repeat' (first | refine rnA ?_ | refine rnS ?_ | refine rnG ?_ | refine rnU ?_ | ((fail_if_success (refine rnKn ?_)); refine rnP ?_ ?_ <;> (intro hq; try (have hq' := hq; simp only [hqs] at hq'))) | refine rkA ?_ | refine rkS ?_ | refine rkF ?_ | refine rkU ?_ | ((fail_if_success (refine rkKn ?_)); refine rkP ?_ ?_ <;> (intro hq; try (have hq' := hq; simp only [hqs] at hq'))) | refine stp ?_ | refine aws_draws [] mixed (by kernel_rfl) ?_ | refine ifT ?_ | refine ifF ?_ | (refine ifQ ?_ ?_ <;> (try (intro hn))) | (refine ifB ?_ ?_ <;> (intro hq; try (have hq' := hq; simp only [hqs] at hq'))))
  exact rc1 rfl rfl rfl rfl rfl (by simpa using hl) finL_p rfl
instance {b : List Nat} {ex : Bool} : PC Tryz.prog 139 [bytesN b ex] (b.length ≤ 400000000) (.a ((leafD b).map bc)) := ⟨leaf_c b ex⟩
end Go.Proofs.YtlaeldgebecppaaGreat.Tr
namespace Go.Proofs.YtlaeldgebecppaaGreat.Tr
open Go Go.RowKit Go.Aw Go.Aw.Sha Go.Aw.Tree Go.Proofs.YtlaeldgebecppaaGreat.Sh
set_option linter.unusedVariables false
set_option linter.unusedSimpArgs false
set_option maxRecDepth 8000
attribute [local irreducible] sum
set_option maxHeartbeats 4000000
theorem with_c (T : List Nat) (n : Int) (b : List Nat) (ex : Bool) (h : T.length = 672 ∧ b.length ≤ 400000000) : PCall Tryz.prog 66 [tv T, .p (.i n), bytesN b ex] (tv (withF T n b)) := by
  refine pcall_of Tryz.func66 rfl (fun w0 F S0 M0 => ?_)
  obtain ⟨hT, hb⟩ := h
  have hdl : (leafD b).length = 32 := leafD_len _
  by_cases hn : 0 ≤ n ∧ n ≤ 15
  · have hd1 : decide (n < 0) = false := decide_eq_false (by omega)
    have hd2 : decide (16 ≤ n) = false := decide_eq_false (by omega)
    have hsl : (setRow 32 T (5 + n).toNat (leafD b)).length = 672 := by rw [setRow_len (by omega) hdl]; exact hT
    have hu : upF (5 + n) = (4 + n) / 4 := by unfold upF; rw [if_pos (by omega)]; omega
    have hu4 : upF (5 + n) ≤ 4 := by rw [hu]; omega
    have e : withF T n b = upsF (setRow 32 T (5 + n).toNat (leafD b)) (upF (5 + n)) := by
      unfold withF upsF; rw [hu, if_pos (by omega), if_pos (by omega)]
    have hwl := withF_len (T := T) (n := n) (b := b) hT
    rw [e] at hwl ⊢
    repeat' (first | refine rnB ?_ | refine rnSB ?_ | refine rnG ?_ | refine rnU ?_ | ((fail_if_success (refine rnKn ?_)); refine rnP ?_ ?_ <;> (intro hq; try (have hq' := hq; simp only [hqs] at hq'))) | refine rkB ?_ | refine rkSB ?_ | refine rkF ?_ | refine rkU ?_ | ((fail_if_success (refine rkKn ?_)); refine rkP ?_ ?_ <;> (intro hq; try (have hq' := hq; simp only [hqs] at hq'))) | refine stp ?_ | refine ifT ?_ | refine ifF ?_ | (refine ifQ ?_ ?_ <;> (try (intro hn))) | (refine ifB ?_ ?_ <;> (intro hq; try (have hq' := hq; simp only [hqs] at hq'))))
    refine aws_draws [(4, 6)] mixed (by kernel_rfl) ?_
    repeat' (first | refine rk_nil ?_ | refine rkB ?_ | refine rkSB ?_ | refine rkF ?_ | refine rkU ?_ | ((fail_if_success (refine rkKn ?_)); refine rkP ?_ ?_ <;> (intro hq; try (have hq' := hq; simp only [hqs] at hq'))))
    repeat' (first | refine rnB ?_ | refine rnSB ?_ | refine rnG ?_ | refine rnU ?_ | ((fail_if_success (refine rnKn ?_)); refine rnP ?_ ?_ <;> (intro hq; try (have hq' := hq; simp only [hqs] at hq'))) | refine rkB ?_ | refine rkSB ?_ | refine rkF ?_ | refine rkU ?_ | ((fail_if_success (refine rkKn ?_)); refine rkP ?_ ?_ <;> (intro hq; try (have hq' := hq; simp only [hqs] at hq'))) | refine stp ?_ | refine ifT ?_ | refine ifF ?_ | (refine ifQ ?_ ?_ <;> (try (intro hn))) | (refine ifB ?_ ?_ <;> (intro hq; try (have hq' := hq; simp only [hqs] at hq'))))
    exact rc1 rfl rfl rfl rfl rfl (by simpa using hwl) finL_p rfl
  · have e : withF T n b = T := by unfold withF; rw [if_neg hn]
    rw [e]
    repeat' (first | refine rnB ?_ | refine rnSB ?_ | refine rnG ?_ | refine rnU ?_ | ((fail_if_success (refine rnKn ?_)); refine rnP ?_ ?_ <;> (intro hq; try (have hq' := hq; simp only [hqs] at hq'))) | refine rkB ?_ | refine rkSB ?_ | refine rkF ?_ | refine rkU ?_ | ((fail_if_success (refine rkKn ?_)); refine rkP ?_ ?_ <;> (intro hq; try (have hq' := hq; simp only [hqs] at hq'))) | refine stp ?_ | refine ifT ?_ | refine ifF ?_ | (refine ifQ ?_ ?_ <;> (try (intro hn))) | (refine ifB ?_ ?_ <;> (intro hq; try (have hq' := hq; simp only [hqs] at hq'))))
    all_goals first | exact rc1 rfl rfl rfl rfl rfl (by simpa using hT) finL_p rfl | (exfalso; simp only [hqs] at *; omega)
end Go.Proofs.YtlaeldgebecppaaGreat.Tr
namespace Go.Proofs.YtlaeldgebecppaaGreat.Tr
open Go Go.RowKit Go.Aw Go.Aw.Sha Go.Aw.Tree Go.Proofs.YtlaeldgebecppaaGreat.Sh
set_option linter.unusedVariables false
set_option linter.unusedSimpArgs false
set_option maxRecDepth 8000
attribute [local irreducible] sum
set_option maxHeartbeats 4000000
theorem right_c (T : List Nat) (hT : T.length = 672) : PCall Tryz.prog 70 [tv T] (.p (.b (rightF T))) := by
  refine pcall_of Tryz.func70 rfl (fun w0 F S0 M0 => ?_)
  repeat' (first | refine rnB ?_ | refine rnSB ?_ | refine rnG ?_ | refine rnU ?_ | ((fail_if_success (refine rnKn ?_)); refine rnP ?_ ?_ <;> (intro hq; try (have hq' := hq; simp only [hqs] at hq'))) | refine rkB ?_ | refine rkSB ?_ | refine rkF ?_ | refine rkU ?_ | ((fail_if_success (refine rkKn ?_)); refine rkP ?_ ?_ <;> (intro hq; try (have hq' := hq; simp only [hqs] at hq'))) | refine stp ?_ | refine ifT ?_ | refine ifF ?_ | (refine ifQ ?_ ?_ <;> (try (intro hn))) | (refine ifB ?_ ?_ <;> (intro hq; try (have hq' := hq; simp only [hqs] at hq'))))
  refine aws_loopS [2, 3, 4, 5, 6, 7, 8, 9, 10, 11, 12, 13, 14, 15, 16] [] (fun (p : Nat) => [(4, .p (.i p))]) (fun _ => []) (fun p => p ≤ 5 ∧ okTo T p) (fun p => 5 - p) 0 ⟨Nat.zero_le _, fun p hp => absurd hp (Nat.not_lt_zero _)⟩ (by exact knA) (by exact knA) ?_
  rintro p β γ ⟨hp, hok⟩
  have hbl := belowF_len (T := T) (p := p) hT
  have hsl : (sum (belowF T p)).length = 32 := sumLen _
  by_cases hp5 : p < 5
  · have hd : decide ((p : Int) < 5) = true := decide_eq_true (by omega)
    have hrl : (rowOf 32 T (p : Int).toNat).length = 32 := row_len hT (by omega)
    repeat' (first | refine rnB ?_ | refine rnSB ?_ | refine rnG ?_ | refine rnU ?_ | ((fail_if_success (refine rnKn ?_)); refine rnP ?_ ?_ <;> (intro hq; try (have hq' := hq; simp only [hqs] at hq'))) | refine rkB ?_ | refine rkSB ?_ | refine rkF ?_ | refine rkU ?_ | ((fail_if_success (refine rkKn ?_)); refine rkP ?_ ?_ <;> (intro hq; try (have hq' := hq; simp only [hqs] at hq'))) | refine stp ?_ | refine aws_draws [] mixed (by kernel_rfl) ?_ | refine ifT ?_ | refine ifF ?_ | (refine ifQ ?_ ?_ <;> (try (intro hn))) | (refine ifB ?_ ?_ <;> (intro hq; try (have hq' := hq; simp only [hqs] at hq'))))
    · refine rt1 rfl rfl finS_p (rb ?_)
      have : ¬ okTo T 5 := fun h => by
        have h1 := h p hp5
        rw [Int.toNat_natCast] at hq'
        exact hq' h1
      exact decide_eq_false this
    · refine ⟨p + 1, _, by omega, ⟨by omega, okTo_succ.2 ⟨hok, ?_⟩⟩, .refl, by exact frA⟩
      rw [Int.toNat_natCast] at hq'
      exact hq'
  · have hd : decide ((p : Int) < 5) = false := decide_eq_false (by omega)
    repeat' (first | refine rnB ?_ | refine rnSB ?_ | refine rnG ?_ | refine rnU ?_ | ((fail_if_success (refine rnKn ?_)); refine rnP ?_ ?_ <;> (intro hq; try (have hq' := hq; simp only [hqs] at hq'))) | refine rkB ?_ | refine rkSB ?_ | refine rkF ?_ | refine rkU ?_ | ((fail_if_success (refine rkKn ?_)); refine rkP ?_ ?_ <;> (intro hq; try (have hq' := hq; simp only [hqs] at hq'))) | refine stp ?_ | refine ifT ?_ | refine ifF ?_ | (refine ifQ ?_ ?_ <;> (try (intro hn))) | (refine ifB ?_ ?_ <;> (intro hq; try (have hq' := hq; simp only [hqs] at hq'))))
    refine rt1 rfl rfl finS_p (rb ?_)
    obtain rfl : p = 5 := by omega
    exact decide_eq_true hok
instance {T : List Nat} : PC Tryz.prog 70 [tv T] (T.length = 672) (.p (.b (rightF T))) := ⟨right_c T⟩
end Go.Proofs.YtlaeldgebecppaaGreat.Tr
