/- trees: of texts; trees: what is above; Trees of digests in plain Lean: the laws. Nothing here speaks of a program.; SHA-256: some sums, reckoned by the kernel. Nothing here speaks of a program.; trees, the laws: fixed calls -/
import Derived.Test.YtlaeldgebecppaaGreatPT42
import Derived.Test.YtlaeldgebecppaaGreatPT05
import Derived.Test.YtlaeldgebecppaaGreatPT41
import Derived.Test.YtlaeldgebecppaaGreatPT21
namespace Go.Proofs.YtlaeldgebecppaaGreat.Tr
open Go Go.RowKit Go.Aw Go.Aw.Sha Go.Aw.Tree Go.Proofs.YtlaeldgebecppaaGreat.Sh
set_option linter.unusedVariables false
set_option linter.unusedSimpArgs false
set_option maxRecDepth 8000
attribute [local irreducible] sum
set_option maxHeartbeats 4000000
abbrev txs (ls : List (List Nat)) : AV := .a (ls.map fun b => .p (bytesP b false))
def few (ls : List (List Nat)) : Prop := ls.length = 16 ∧ ∀ b ∈ ls, b.length ≤ 400000000
theorem few_get {ls : List (List Nat)} (h : few ls) (i : Nat) : (ls.getD i default).length ≤ 400000000 := by
  rw [List.getD_eq_getElem?_getD]
  cases hx : ls[i]? with
  | none => exact Nat.zero_le _
  | some x => exact h.2 x (List.mem_of_getElem? hx)
theorem of_c (ls : List (List Nat)) (h : few ls) : PCall Tryz.prog 65 [txs ls] (tv (ofF ls)) := by
  refine pcall_of Tryz.func65 rfl (fun w0 F S0 M0 => ?_)
  have hl16 := h.1
  repeat' (first | refine rnB ?_ | refine rnSB ?_ | refine rnG ?_ | refine rnU ?_ | ((fail_if_success (refine rnKn ?_)); refine rnP ?_ ?_ <;> (intro hq; try (have hq' := hq; simp only [hqs] at hq'))) | refine rkB ?_ | refine rkSB ?_ | refine rkF ?_ | refine rkU ?_ | ((fail_if_success (refine rkKn ?_)); refine rkP ?_ ?_ <;> (intro hq; try (have hq' := hq; simp only [hqs] at hq'))) | refine stp ?_ | refine ifT ?_ | refine ifF ?_ | (refine ifQ ?_ ?_ <;> (try (intro hn))) | (refine ifB ?_ ?_ <;> (intro hq; try (have hq' := hq; simp only [hqs] at hq'))))
  refine aws_loopS [4, 5, 8, 9, 10, 11, 12, 13, 14, 15, 16, 17] [3] (fun (i : Nat) => [(8, .p (.i i))]) (fun i => [(3, (1, some (.box 46 ((leavesTo ls i).map bc))))])
    (fun i => i ≤ 16) (fun i => 16 - i) 0 (Nat.zero_le _) (by exact knA) (by exact knA) ?_
  · rintro i β γ hi
    have hfl := few_get h (i : Int).toNat
    have hll := leavesTo_len ls i hi
    have hdl : (leafD (ls.getD (i : Int).toNat default)).length = 32 := leafD_len _
    by_cases hi16 : i < 16
    · have hd : decide ((i : Int) < 16) = true := decide_eq_true (by omega)
      repeat' (first | refine rnB ?_ | refine rnSB ?_ | refine rnG ?_ | refine rnU ?_ | ((fail_if_success (refine rnKn ?_)); refine rnP ?_ ?_ <;> (intro hq; try (have hq' := hq; simp only [hqs] at hq'))) | refine rkB ?_ | refine rkSB ?_ | refine rkF ?_ | refine rkU ?_ | ((fail_if_success (refine rkKn ?_)); refine rkP ?_ ?_ <;> (intro hq; try (have hq' := hq; simp only [hqs] at hq'))) | refine stp ?_ | refine ifT ?_ | refine ifF ?_ | (refine ifQ ?_ ?_ <;> (try (intro hn))) | (refine ifB ?_ ?_ <;> (intro hq; try (have hq' := hq; simp only [hqs] at hq'))))
      refine ⟨i + 1, _, by omega, by omega, .refl, ?_⟩
      have e : leavesTo ls (i + 1) = setRow 32 (leavesTo ls i) (5 + (i : Int)).toNat (leafD (ls.getD (i : Int).toNat default)) := by
        rw [leavesTo, Int.toNat_natCast]; congr 1
      rw [e]
      exact frA
    · have hd : decide ((i : Int) < 16) = false := decide_eq_false (by omega)
      have hof : ofF ls = innerTo (leavesTo ls i) 5 := by rw [show i = 16 by omega]; rfl
      clear hdl hfl
      rw [hof]
      generalize leavesTo ls i = L at hll ⊢
      repeat' (first | refine rnB ?_ | refine rnSB ?_ | refine rnG ?_ | refine rnU ?_ | ((fail_if_success (refine rnKn ?_)); refine rnP ?_ ?_ <;> (intro hq; try (have hq' := hq; simp only [hqs] at hq'))) | refine rkB ?_ | refine rkSB ?_ | refine rkF ?_ | refine rkU ?_ | ((fail_if_success (refine rkKn ?_)); refine rkP ?_ ?_ <;> (intro hq; try (have hq' := hq; simp only [hqs] at hq'))) | refine stp ?_ | refine ifT ?_ | refine ifF ?_ | (refine ifQ ?_ ?_ <;> (try (intro hn))) | (refine ifB ?_ ?_ <;> (intro hq; try (have hq' := hq; simp only [hqs] at hq'))))
      refine aws_loopS [6, 18, 19, 20, 21, 22, 23, 24, 25, 26, 27, 28] [3] (fun (x : Nat × Int) => [(6, .p (.i x.2))]) (fun x => [(3, (1, some (.box 46 ((innerTo L x.1).map bc))))])
        (fun x => x.1 ≤ 5 ∧ x.2 = 4 - (x.1 : Int)) (fun x => 5 - x.1) (0, 4) ⟨Nat.zero_le _, rfl⟩ (by exact knA) (by exact knA) ?_
      rintro ⟨k, t⟩ β γ ⟨hk, ht⟩
      simp only at hk ht
      have hil := innerTo_len hll k
      have hbl := belowF_len (T := innerTo L k) (p := t) hil
      have hsl : (sum (belowF (innerTo L k) t)).length = 32 := sumLen _
      dsimp only
      by_cases hk5 : k < 5
      · have hd : decide (0 ≤ t) = true := decide_eq_true (by omega)
        repeat' (first | refine rnB ?_ | refine rnSB ?_ | refine rnG ?_ | refine rnU ?_ | ((fail_if_success (refine rnKn ?_)); refine rnP ?_ ?_ <;> (intro hq; try (have hq' := hq; simp only [hqs] at hq'))) | refine rkB ?_ | refine rkSB ?_ | refine rkF ?_ | refine rkU ?_ | ((fail_if_success (refine rkKn ?_)); refine rkP ?_ ?_ <;> (intro hq; try (have hq' := hq; simp only [hqs] at hq'))) | refine stp ?_ | refine ifT ?_ | refine ifF ?_ | (refine ifQ ?_ ?_ <;> (try (intro hn))) | (refine ifB ?_ ?_ <;> (intro hq; try (have hq' := hq; simp only [hqs] at hq'))))
        refine ⟨(k + 1, t - 1), _, by dsimp only; omega, ⟨by dsimp only; omega, by dsimp only; omega⟩, .refl, ?_⟩
        have e : innerTo L (k + 1) = setRow 32 (innerTo L k) t.toNat (sum (belowF (innerTo L k) t)) := by
          obtain rfl : t = ((4 - k : Nat) : Int) := by omega
          rw [innerTo, fixF, Int.toNat_natCast]
        dsimp only
        rw [e]
        exact frA
      · have hd : decide (0 ≤ t) = false := decide_eq_false (by omega)
        have hk5' : innerTo L 5 = innerTo L k := by rw [show k = 5 by omega]
        rw [hk5']
        repeat' (first | refine rnB ?_ | refine rnSB ?_ | refine rnG ?_ | refine rnU ?_ | ((fail_if_success (refine rnKn ?_)); refine rnP ?_ ?_ <;> (intro hq; try (have hq' := hq; simp only [hqs] at hq'))) | refine rkB ?_ | refine rkSB ?_ | refine rkF ?_ | refine rkU ?_ | ((fail_if_success (refine rkKn ?_)); refine rkP ?_ ?_ <;> (intro hq; try (have hq' := hq; simp only [hqs] at hq'))) | refine stp ?_ | refine ifT ?_ | refine ifF ?_ | (refine ifQ ?_ ?_ <;> (try (intro hn))) | (refine ifB ?_ ?_ <;> (intro hq; try (have hq' := hq; simp only [hqs] at hq'))))
        exact rc1 rfl rfl rfl rfl rfl (by simpa using hil) finL_p rfl
end Go.Proofs.YtlaeldgebecppaaGreat.Tr
namespace Go.Proofs.YtlaeldgebecppaaGreat.Tr
open Go Go.RowKit Go.Aw Go.Aw.Sha Go.Aw.Tree Go.Proofs.YtlaeldgebecppaaGreat.Sh
set_option linter.unusedVariables false
set_option linter.unusedSimpArgs false
set_option maxRecDepth 8000
end Go.Proofs.YtlaeldgebecppaaGreat.Tr
namespace Go.Aw.Tree
open Go.Aw Go.Aw.Sha
set_option linter.unusedVariables false
set_option linter.unusedSimpArgs false
attribute [local irreducible] sum
theorem row_fix {T : List Nat} {p : Nat} (h : T.length = 672) (hp : p < 21) : row (fixF T p) p = sum (belowF T p) := rowOf_setRow (by omega) (sumLen _)
theorem row_fix_ne {T : List Nat} {p q : Nat} (h : T.length = 672) (hp : p < 21) (hq : q ≠ p) : row (fixF T p) q = row T q := rowOf_setRow_ne (by omega) (sumLen _) hq
theorem belowTo_congr {T U : List Nat} {p : Int} (h : ∀ i : Nat, i < 4 → row T (4 * p + 1 + i).toNat = row U (4 * p + 1 + i).toNat) : ∀ k, k ≤ 4 → belowTo T p k = belowTo U p k
  | 0, _ => rfl
  | k + 1, hk => by rw [belowTo, belowTo, belowTo_congr h k (by omega), h k (by omega)]
theorem below_congr {T U : List Nat} {p : Nat} (h : ∀ i : Nat, i < 4 → row T (4 * p + 1 + i) = row U (4 * p + 1 + i)) : belowF T p = belowF U p := by
  unfold belowF
  rw [belowTo_congr (fun i hi => ?_) 4 (by omega)]
  rw [show (4 * (p : Int) + 1 + i).toNat = 4 * p + 1 + i by omega]; exact h i hi
theorem below_fix {T : List Nat} {p q : Nat} (h : T.length = 672) (hq : q < 21) (hpq : q < 4 * p + 1 ∨ 4 * p + 4 < q) : belowF (fixF T q) p = belowF T p :=
  below_congr fun i hi => row_fix_ne h hq (by omega)
theorem inner_row {T : List Nat} (h : T.length = 672) {r : Nat} (hr : 5 ≤ r) : ∀ k, row (innerTo T k) r = row T r
  | 0 => rfl
  | k + 1 => by rw [innerTo, row_fix_ne (innerTo_len h k) (by omega) (by omega), inner_row h hr k]
theorem inner_right {T : List Nat} (h : T.length = 672) : ∀ k, k ≤ 5 → ∀ p, 5 - k ≤ p → p < 5 → row (innerTo T k) p = sum (belowF (innerTo T k) p)
  | 0, _, p, h1, h2 => by omega
  | k + 1, hk, p, h1, h2 => by
    have hl := innerTo_len h k
    rw [innerTo]
    rw [below_fix hl (by omega) (.inl (by omega))]
    by_cases hp : p = 4 - k
    · subst hp; rw [row_fix hl (by omega)]
    · rw [row_fix_ne hl (by omega) hp]; exact inner_right h k (by omega) p (by omega) h2
theorem right_inner {T : List Nat} (h : T.length = 672) : rightF (innerF T) = true := decide_eq_true fun p hp => inner_right h 5 (by omega) p (by omega) hp
theorem right_row {T : List Nat} (h : rightF T = true) {p : Nat} (hp : p < 5) : row T p = sum (belowF T p) := (of_decide_eq_true h : okTo T 5) p hp
theorem leaves_row (ls : List (List Nat)) : ∀ k, k ≤ 16 → ∀ i, i < k → row (leavesTo ls k) (5 + i) = leafD (ls.getD i default)
  | 0, _, i, h => by omega
  | k + 1, hk, i, h => by
    have hl := leavesTo_len ls k (by omega)
    rw [leavesTo]
    by_cases e : i = k
    · subst e; exact rowOf_setRow (by omega) (leafD_len _)
    · rw [row, rowOf_setRow_ne (by omega) (leafD_len _) (by omega)]; exact leaves_row ls k (by omega) i (by omega)
theorem of_row (ls : List (List Nat)) {i : Nat} (h : i < 16) : row (ofF ls) (5 + i) = leafD (ls.getD i default) := by
  unfold ofF innerF; rw [inner_row (leavesTo_len ls 16 (by omega)) (by omega), leaves_row ls 16 (by omega) i h]
theorem of_right (ls : List (List Nat)) : rightF (ofF ls) = true := right_inner (leavesTo_len ls 16 (by omega))
section withs
variable {T : List Nat} {n : Nat} {b : List Nat}
theorem withF_nat (hn : n ≤ 15) : withF T n b = fixF (fixF (setRow 32 T (5 + n) (leafD b)) ((4 + n) / 4)) 0 := by
  unfold withF
  rw [if_pos (by omega), show ((5 : Int) + n).toNat = 5 + n by omega, show (((4 : Int) + n) / 4).toNat = (4 + n) / 4 by omega]
theorem set_len (h : T.length = 672) (hn : n ≤ 15) : (setRow 32 T (5 + n) (leafD b)).length = 672 := by rw [setRow_len (by omega) (leafD_len _)]; exact h
theorem with_row (h : T.length = 672) (hn : n ≤ 15) {p : Nat} (h0 : p ≠ 0) (h1 : p ≠ 5 + n) (h2 : p ≠ (4 + n) / 4) : row (withF T n b) p = row T p := by
  rw [withF_nat hn, row_fix_ne (fixF_len (set_len h hn) (by omega)) (by omega) h0, row_fix_ne (set_len h hn) (by omega) h2]
  exact rowOf_setRow_ne (by omega) (leafD_len _) h1
theorem with_leaf (h : T.length = 672) (hn : n ≤ 15) : row (withF T n b) (5 + n) = leafD b := by
  rw [withF_nat hn, row_fix_ne (fixF_len (set_len h hn) (by omega)) (by omega) (by omega), row_fix_ne (set_len h hn) (by omega) (by omega)]
  exact rowOf_setRow (by omega) (leafD_len _)
theorem with_right (h : T.length = 672) (hr : rightF T = true) (hn : n ≤ 15) : rightF (withF T n b) = true := by
  have l1 := set_len (b := b) h hn
  have l2 : (fixF (setRow 32 T (5 + n) (leafD b)) ((4 + n) / 4)).length = 672 := fixF_len l1 (by omega)
  refine decide_eq_true fun p hp => ?_
  rw [withF_nat hn, below_fix l2 (by omega) (.inl (by omega))]
  by_cases p0 : p = 0
  · subst p0; exact row_fix l2 (by omega)
  · rw [row_fix_ne l2 (by omega) p0, below_fix l1 (by omega) (by omega)]
    by_cases pq : p = (4 + n) / 4
    · subst pq; exact row_fix l1 (by omega)
    · rw [row_fix_ne l1 (by omega) pq, row, rowOf_setRow_ne (by omega) (leafD_len _) (by omega)]
      have := right_row hr hp
      rw [row] at this
      rw [this]
      refine congrArg sum (below_congr fun i hi => ?_)
      exact (rowOf_setRow_ne (l := T) (i := 5 + n) (r := leafD b) (by omega) (leafD_len _) (by omega)).symm
end withs
theorem below4 {T : List Nat} {p : Nat} (hp : p ≤ 4) : belowF T p = [1] ++ row T (4 * p + 1) ++ row T (4 * p + 2) ++ row T (4 * p + 3) ++ row T (4 * p + 4) := by
  unfold belowF
  rw [if_pos (by omega)]
  simp only [belowTo]
  rw [show (4 * (p : Int) + 1 + (0 : Nat)).toNat = 4 * p + 1 by omega, show (4 * (p : Int) + 1 + (1 : Nat)).toNat = 4 * p + 2 by omega, show (4 * (p : Int) + 1 + (2 : Nat)).toNat = 4 * p + 3 by omega, show (4 * (p : Int) + 1 + (3 : Nat)).toNat = 4 * p + 4 by omega]
end Go.Aw.Tree
namespace Go.Aw.Sha
set_option linter.unusedVariables false
set_option linter.unusedSimpArgs false
set_option maxRecDepth 100000
def k_d0 : List Nat := [110, 52, 11, 156, 255, 179, 122, 152, 156, 165, 68, 230, 187, 120, 10, 44, 120, 144, 29, 63, 179, 55, 56, 118, 133, 17, 163, 6, 23, 175, 160, 29]
def k_dx : List Nat := [60, 126, 155, 201, 48, 220, 147, 240, 31, 166, 153, 133, 239, 36, 45, 159, 158, 134, 31, 60, 83, 85, 170, 36, 206, 94, 244, 180, 184, 167, 12, 203]
def k_d1 : List Nat := [61, 152, 27, 166, 100, 234, 31, 54, 218, 48, 102, 189, 149, 118, 183, 26, 29, 3, 165, 0, 95, 59, 219, 179, 88, 22, 97, 45, 15, 7, 140, 24]
def k_d1x : List Nat := [102, 123, 221, 182, 33, 238, 20, 74, 216, 248, 3, 194, 246, 90, 64, 41, 219, 102, 67, 252, 220, 177, 89, 37, 110, 68, 173, 34, 54, 101, 27, 36]
def k_r : List Nat := [223, 120, 159, 7, 224, 114, 144, 222, 181, 63, 117, 247, 15, 115, 197, 134, 38, 132, 186, 86, 194, 70, 20, 107, 62, 236, 150, 67, 91, 64, 143, 15]
def k_rx : List Nat := [182, 37, 136, 178, 86, 184, 241, 99, 36, 127, 133, 61, 139, 217, 139, 28, 74, 124, 252, 182, 77, 247, 140, 208, 86, 142, 85, 124, 131, 42, 112, 162]
theorem kv_d0 : sum [0] = k_d0 := by decide +kernel
theorem kv_dx : sum [0, 120] = k_dx := by decide +kernel
theorem kv_d1 : sum ([1] ++ k_d0 ++ k_d0 ++ k_d0 ++ k_d0) = k_d1 := by decide +kernel
theorem kv_d1x : sum ([1] ++ k_d0 ++ k_d0 ++ k_d0 ++ k_dx) = k_d1x := by decide +kernel
theorem kv_r : sum ([1] ++ k_d1 ++ k_d1 ++ k_d1 ++ k_d1) = k_r := by decide +kernel
theorem kv_rx : sum ([1] ++ k_d1x ++ k_d1 ++ k_d1 ++ k_d1) = k_rx := by decide +kernel
theorem kv_ne : k_r ≠ k_rx := by decide
end Go.Aw.Sha
namespace Go.Proofs.YtlaeldgebecppaaGreat.Tr
open Go Go.RowKit Go.Aw Go.Aw.Sha Go.Aw.Tree Go.Proofs.YtlaeldgebecppaaGreat.Sh
set_option linter.unusedVariables false
set_option linter.unusedSimpArgs false
set_option maxRecDepth 8000
set_option maxHeartbeats 4000000
attribute [local irreducible] sum
theorem lopC {C : Ctx} {o : Oper} {σ : St} {e : Eff} {ro : Nat → Bool} (h : LOp C o σ e ro := by
    first | (apply lop_bo1k (.int .u8 120); (focus rfl); (focus rfl); (focus rfl); (focus exact inferInstance); (focus exact inferInstance); (focus exact inferInstance); (focus rfl); (focus rfl); (focus rfl)) | (apply lop_cv_bb; (focus rfl); (focus exact inferInstance); (focus exact inferInstance); (focus rfl); (focus rfl); (focus rfl); (focus rfl); (focus decide); (focus rfl)) | exact lopB | fail) : LOp C o σ e ro := h
section steps
variable {C : Ctx} {ops : Array Oper} {o : Oper} {rest : List Oper} {K : St → Prop} {σ : St} {e : Eff} {ro : Nat → Bool} {W : List (Nat × Nat)} {i : Nat}
theorem rnC {d : Nat} (hk : RunN C ops rest K (e.app (some d) σ)) (hg : Guard ops σ o true := by first | exact gd_n rfl rfl | exact gd_t rfl rfl rfl rfl | exact gd_t rfl rfl rfl (by assumption)) (hd : o.dst = some d := by rfl) (h : LOp C o σ e ro := by exact lopC) : RunN C ops (o :: rest) K σ := rn_any hg hd h hk
theorem rkC {d : Nat} (hk : RunK C ops W (i + 1) rest K (e.app (some d) σ)) (hg : Guard ops σ o true := by first | exact gd_n rfl rfl | exact gd_t rfl rfl rfl rfl | exact gd_t rfl rfl rfl (by assumption)) (hd' : o.dst = some d := by rfl) (hd : dOk C o.dst = true := by rfl) (h : LOp C o σ e ro := by exact lopC)
    (hro : ∀ x, ro x = true → okObj ops W i x = true := by first | exact fun _ => ro_none | exact ro_one rfl | exact ro_one (by kernel_rfl) | exact ro_kIn (by decide)) (hob : ∀ p ∈ e.obj, (i, p.1) ∈ W := by first | exact ob_none | exact ob_one (by decide) | decide) : RunK C ops W i (o :: rest) K σ := rk_wr hg hd' hd h hro hob hk
end steps
/-- what the fixed calls come to -/
theorem alive_facts : ∃ T U : List Nat, T = ofF (List.replicate 16 []) ∧ U = withF T 3 [120] ∧ T.length = 672 ∧ U.length = 672 ∧ rightF T = true ∧ rightF U = true ∧ row T 0 ≠ row U 0 ∧ row T 8 = sum [0] ∧ row U 8 = sum [0, 120] ∧ (belowF T 1).length = 129 := by
  obtain ⟨T, hT⟩ : ∃ T, T = ofF (List.replicate 16 []) := ⟨_, rfl⟩
  obtain ⟨U, hU⟩ : ∃ U, U = withF T ((3 : Nat) : Int) [120] := ⟨_, rfl⟩
  have lT : T.length = 672 := by rw [hT]; exact ofF_len _
  have lU : U.length = 672 := by rw [hU]; exact withF_len lT
  have rT : rightF T = true := by rw [hT]; exact of_right _
  have rU : rightF U = true := by rw [hU]; exact with_right lT rT (by omega)
  have a : ∀ i, i < 16 → row T (5 + i) = k_d0 := fun i hi => by
    rw [hT, of_row _ hi, ← kv_d0]
    have : (List.replicate 16 ([] : List Nat)).getD i default = [] := by
      rw [List.getD_eq_getElem?_getD, List.getElem?_replicate, if_pos hi]; rfl
    rw [this]; rfl
  have b : ∀ p, 1 ≤ p → p ≤ 4 → row T p = k_d1 := fun p h1 h2 => by
    rw [right_row rT (by omega), below4 h2]
    have e : ∀ j, 4 * p + 1 ≤ j → j ≤ 4 * p + 4 → row T j = k_d0 := fun j h3 h4 => by
      have := a (j - 5) (by omega); rwa [show 5 + (j - 5) = j by omega] at this
    rw [e _ (by omega) (by omega), e _ (by omega) (by omega), e _ (by omega) (by omega), e _ (by omega) (by omega), kv_d1]
  have c : row T 0 = k_r := by
    rw [right_row rT (by omega), below4 (by omega), b _ (by omega) (by omega), b _ (by omega) (by omega), b _ (by omega) (by omega), b _ (by omega) (by omega), kv_r]
  have x8 : row U 8 = k_dx := by
    have := with_leaf (T := T) (n := 3) (b := [120]) lT (by omega)
    rw [← hU] at this
    rw [this, ← kv_dx]; rfl
  have same : ∀ p, p ≠ 0 → p ≠ 8 → p ≠ 1 → row U p = row T p := fun p h1 h2 h3 => by
    rw [hU]; exact with_row lT (by omega) h1 h2 h3
  have u1 : row U 1 = k_d1x := by
    rw [right_row rU (by omega), below4 (by omega), same _ (by omega) (by omega) (by omega), same _ (by omega) (by omega) (by omega), same _ (by omega) (by omega) (by omega), x8, a 0 (by omega), a 1 (by omega), a 2 (by omega), kv_d1x]
  have u0 : row U 0 = k_rx := by
    rw [right_row rU (by omega), below4 (by omega), u1, same _ (by omega) (by omega) (by omega), same _ (by omega) (by omega) (by omega), same _ (by omega) (by omega) (by omega), b _ (by omega) (by omega), b _ (by omega) (by omega), b _ (by omega) (by omega), kv_rx]
  refine ⟨T, U, hT, hU, lT, lU, rT, rU, ?_, ?_, ?_, ?_⟩
  · rw [c, u0]; exact kv_ne
  · rw [a 3 (by omega), kv_d0]
  · rw [x8, kv_dx]
  · unfold belowF; rw [if_pos (by omega)]; exact belowTo_len lT (by omega) 4 (by omega)
theorem alive_c : PCall Tryz.prog 24 [] (.p (.b true)) := by
  refine pcall_of Tryz.func24 rfl (fun w0 F S0 M0 => ?_)
  obtain ⟨T, U, hT, hU, lT, lU, rT, rU, h0, h8, hx8, hb⟩ := alive_facts
  haveI i1 : PC Tryz.prog 65 [.a [.p (.v (.slice none 0 0)), .p (.v (.slice none 0 0)), .p (.v (.slice none 0 0)), .p (.v (.slice none 0 0)), .p (.v (.slice none 0 0)), .p (.v (.slice none 0 0)), .p (.v (.slice none 0 0)), .p (.v (.slice none 0 0)), .p (.v (.slice none 0 0)), .p (.v (.slice none 0 0)), .p (.v (.slice none 0 0)), .p (.v (.slice none 0 0)), .p (.v (.slice none 0 0)), .p (.v (.slice none 0 0)), .p (.v (.slice none 0 0)), .p (.v (.slice none 0 0))]] True (tv T) := ⟨fun _ => by
    rw [hT]
    refine PCall.ent (bs := [txs (List.replicate 16 [])]) (of_c _ ⟨by simp, fun b hb => by rw [List.eq_of_mem_replicate hb]; simp⟩) (.cons ?_ .nil)
    exact Ent1.nils (es := 1) (n := 16) (ls := [])⟩
  haveI i2 : PC Tryz.prog 66 [tv T, .p (.i 3), .p (.sl 1 (([120] : List Int).map fun n => [PVal.v (.int .u8 n)]) false)] True (tv U) := ⟨fun _ => by rw [hU]; exact with_c T 3 [120] false ⟨lT, by simp⟩⟩
  obtain ⟨D, hD⟩ : ∃ D, D = sum [0] := ⟨_, rfl⟩
  obtain ⟨X, hX⟩ : ∃ X, X = sum [0, 120] := ⟨_, rfl⟩
  haveI i3 : PC Tryz.prog 71 [.p (.sl 1 [[.sl 1 [[.v (.int .u8 0)]] true]] true)] True (.a (D.map bc)) := ⟨fun _ => by rw [hD]; exact sum1_c [0] true true (by simp)⟩
  haveI i4 : PC Tryz.prog 71 [.p (.sl 1 [[.sl 1 [[.v (.int .u8 0)]] true], [.sl 1 [[.v (.int .u8 120)]] false]] true)] True (.a (X.map bc)) := ⟨fun _ => by rw [hX]; exact sum2_c [0] [120] true false true (by simp)⟩
  have lD : D.length = 32 := by rw [hD]; exact sumLen _
  have lX : X.length = 32 := by rw [hX]; exact sumLen _
  rw [← hD] at h8; rw [← hX] at hx8
  clear hT hU hD hX
  obtain ⟨Kd, hKd⟩ : ∃ Kd, Kd = kidsF 2 := ⟨_, rfl⟩
  haveI i5 : PC Tryz.prog 64 [.p (.i 2)] True (ints Kd false) := ⟨fun _ => by rw [hKd]; exact kids_c 2⟩
  have k0 : Kd.length = 4 := by rw [hKd]; rfl
  have k1 : decide ((Kd.length : Int) = 4) = true := by rw [hKd]; rfl
  have k2 : decide (Kd.getD (Int.toNat 0) default = 9) = true := by rw [hKd]; rfl
  have k3 : decide (Kd.getD (Int.toNat 3) default = 12) = true := by rw [hKd]; rfl
  have e0 : (!decide (rowOf 32 T (Int.toNat 0) = rowOf 32 U (Int.toNat 0))) = true := by
    have : decide (rowOf 32 T (Int.toNat 0) = rowOf 32 U (Int.toNat 0)) = false := decide_eq_false h0
    rw [this]; rfl
  have e8 : decide (rowOf 32 T (Int.toNat 8) = D) = true := decide_eq_true h8
  have ex : decide (rowOf 32 U (Int.toNat 8) = X) = true := decide_eq_true hx8
  have eb : decide (((belowF T 1).length : Int) = 129) = true := decide_eq_true (by omega)
  repeat' (first | refine rnC ?_ | refine rnSB ?_ | refine rnG ?_ | refine rnU ?_ | ((fail_if_success (refine rnKn ?_)); refine rnP ?_ ?_ <;> (intro hq; try (have hq' := hq; simp only [hqs] at hq'))) | refine rkC ?_ | refine rkSB ?_ | refine rkF ?_ | refine rkU ?_ | ((fail_if_success (refine rkKn ?_)); refine rkP ?_ ?_ <;> (intro hq; try (have hq' := hq; simp only [hqs] at hq'))) | refine stp ?_ | refine ifT ?_ | refine ifF ?_ | (refine ifQ ?_ ?_ <;> (try (intro hn))) | (refine ifB ?_ ?_ <;> (intro hq; try (have hq' := hq; simp only [hqs] at hq'))))
  refine aws_draws [(66, 77), (67, 77)] mixed (by kernel_rfl) ?_
  repeat' (first | refine rk_nil ?_ | refine rkC ?_ | refine rkSB ?_ | refine rkF ?_ | refine rkU ?_ | ((fail_if_success (refine rkKn ?_)); refine rkP ?_ ?_ <;> (intro hq; try (have hq' := hq; simp only [hqs] at hq'))))
  repeat' (first | refine rnC ?_ | refine rnSB ?_ | refine rnG ?_ | refine rnU ?_ | ((fail_if_success (refine rnKn ?_)); refine rnP ?_ ?_ <;> (intro hq; try (have hq' := hq; simp only [hqs] at hq'))) | refine rkC ?_ | refine rkSB ?_ | refine rkF ?_ | refine rkU ?_ | ((fail_if_success (refine rkKn ?_)); refine rkP ?_ ?_ <;> (intro hq; try (have hq' := hq; simp only [hqs] at hq'))) | refine stp ?_ | refine ifT ?_ | refine ifF ?_ | (refine ifQ ?_ ?_ <;> (try (intro hn))) | (refine ifB ?_ ?_ <;> (intro hq; try (have hq' := hq; simp only [hqs] at hq'))))
  exact rt1 rfl rfl finS_p (rb eb.symm)
instance : PC Tryz.prog 24 [] True (.p (.b true)) := ⟨fun _ => alive_c⟩
end Go.Proofs.YtlaeldgebecppaaGreat.Tr
