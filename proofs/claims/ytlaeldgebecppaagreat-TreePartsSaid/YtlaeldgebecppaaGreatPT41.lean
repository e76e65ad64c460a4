/- Trees of digests in plain Lean: 21 rows of 32 bytes in one flat list. Nothing here speaks of a program.; trees: what is above and below a place.; trees: children -/
import Derived.Test.YtlaeldgebecppaaGreatPT21
import Derived.Test.YtlaeldgebecppaaGreatPT05
import Derived.Test.YtlaeldgebecppaaGreatPT24
namespace Go.Aw.Tree
open Go.Aw Go.Aw.Sha
set_option linter.unusedVariables false
set_option linter.unusedSimpArgs false
attribute [local irreducible] sum
theorem take_snocD {α : Type} [Inhabited α] {l : List α} {k : Nat} (h : k < l.length) : l.take (k + 1) = l.take k ++ [l.getD k default] := by
  rw [List.take_succ_eq_append_getElem h, List.getD_eq_getElem?_getD, List.getElem?_eq_getElem h]; rfl
def plc (p : Int) : Bool := decide (0 ≤ p ∧ p < 21)
def kidsF (p : Int) : List Int := if 0 ≤ p ∧ p ≤ 4 then [4 * p + 1, 4 * p + 2, 4 * p + 3, 4 * p + 4] else []
def upF (p : Int) : Int := if 1 ≤ p ∧ p ≤ 20 then (p - 1) / 4 else -1
def leafOf (p : Int) : Int := if 5 ≤ p ∧ p < 21 then p - 5 else -1
def levelF (p : Int) : Int := if p = 0 then 0 else if 1 ≤ p ∧ p ≤ 4 then 1 else if 5 ≤ p ∧ p ≤ 20 then 2 else -1
theorem kidsF_in {p : Int} (h : 0 ≤ p ∧ p ≤ 4) : kidsF p = [4 * p + 1, 4 * p + 2, 4 * p + 3, 4 * p + 4] := by simp [kidsF, h]
theorem kidsF_out {p : Int} (h : ¬ (0 ≤ p ∧ p ≤ 4)) : kidsF p = [] := by unfold kidsF; rw [if_neg h]
theorem kidsF_get {p : Int} (h : 0 ≤ p ∧ p ≤ 4) {i : Nat} (hi : i < 4) : (kidsF p).getD i default = 4 * p + 1 + i := by
  rw [kidsF_in h]
  match i, hi with
  | 0, _ => simp
  | 1, _ => simp; omega
  | 2, _ => simp; omega
  | 3, _ => simp; omega
theorem upF_lt {p : Int} (h : plc p = true) : (upF p + 1).toNat < (p + 1).toNat := by
  have h1 : 0 ≤ p ∧ p < 21 := of_decide_eq_true h
  unfold upF; split <;> omega
theorem levelF_up {p : Int} (h : plc p = true) : levelF p = levelF (upF p) + 1 := by
  have h1 : 0 ≤ p ∧ p < 21 := of_decide_eq_true h
  unfold upF
  by_cases h2 : 1 ≤ p ∧ p ≤ 20
  · rw [if_pos h2]; unfold levelF
    repeat' split
    all_goals omega
  · rw [if_neg h2]; unfold levelF
    repeat' split
    all_goals omega
theorem levelF_in (p : Int) : -1 ≤ levelF p ∧ levelF p ≤ 2 := by
  unfold levelF
  repeat' split
  all_goals omega
theorem levelF_out {p : Int} (h : plc p = false) : levelF p = -1 := by
  have h1 : ¬ (0 ≤ p ∧ p < 21) := of_decide_eq_false h
  unfold levelF
  repeat' split
  all_goals omega
abbrev row (T : List Nat) (p : Nat) : List Nat := rowOf 32 T p
def belowTo (T : List Nat) (p : Int) : Nat → List Nat
  | 0 => [1]
  | i + 1 => belowTo T p i ++ row T (4 * p + 1 + i).toNat
def belowF (T : List Nat) (p : Int) : List Nat := if 0 ≤ p ∧ p ≤ 4 then belowTo T p 4 else []
theorem row_len {T : List Nat} {p : Nat} (h : T.length = 672) (hp : p < 21) : (row T p).length = 32 := rowOf_len (by omega)
theorem belowTo_len {T : List Nat} {p : Int} (h : T.length = 672) (hp : 0 ≤ p ∧ p ≤ 4) : ∀ i, i ≤ 4 → (belowTo T p i).length = 1 + 32 * i
  | 0, _ => rfl
  | i + 1, hi => by rw [belowTo, List.length_append, belowTo_len h hp i (by omega), row_len h (by omega)]; omega
theorem belowF_len {T : List Nat} {p : Int} (h : T.length = 672) : (belowF T p).length ≤ 129 := by
  unfold belowF; split
  · rename_i hp; rw [belowTo_len h hp 4 (by omega)]; omega
  · simp
def leafD (b : List Nat) : List Nat := sum (0 :: b)
theorem sumLen (b : List Nat) : (sum b).length = 32 := sum_len b
def fixF (T : List Nat) (p : Nat) : List Nat := setRow 32 T p (sum (belowF T p))
theorem leafD_len (b : List Nat) : (leafD b).length = 32 := sum_len _
theorem fixF_int {T : List Nat} {q : Int} (h : 0 ≤ q) : fixF T q.toNat = setRow 32 T q.toNat (sum (belowF T q)) := by unfold fixF; rw [Int.toNat_of_nonneg h]
theorem fixF_len {T : List Nat} {p : Nat} (h : T.length = 672) (hp : p < 21) : (fixF T p).length = 672 := by
  unfold fixF; rw [setRow_len (by omega) (sumLen _)]; exact h
/-- the inner places from 4 down, so many of them -/
def innerTo (T : List Nat) : Nat → List Nat
  | 0 => T
  | i + 1 => fixF (innerTo T i) (4 - i)
def innerF (T : List Nat) : List Nat := innerTo T 5
theorem innerTo_len {T : List Nat} (h : T.length = 672) : ∀ i, (innerTo T i).length = 672
  | 0 => h
  | i + 1 => fixF_len (innerTo_len h i) (by omega)
/-- the leaves, so many of them laid -/
def leavesTo (ls : List (List Nat)) : Nat → List Nat
  | 0 => List.replicate 672 0
  | i + 1 => setRow 32 (leavesTo ls i) (5 + i) (leafD (ls.getD i default))
theorem leavesTo_len (ls : List (List Nat)) : ∀ i, i ≤ 16 → (leavesTo ls i).length = 672
  | 0, _ => List.length_replicate
  | i + 1, h => by rw [leavesTo, setRow_len (by rw [leavesTo_len ls i (by omega)]; omega) (leafD_len _)]; exact leavesTo_len ls i (by omega)
def ofF (ls : List (List Nat)) : List Nat := innerF (leavesTo ls 16)
theorem ofF_len (ls : List (List Nat)) : (ofF ls).length = 672 := innerTo_len (leavesTo_len ls 16 (by omega)) 5
/-- digests made anew from a place on -/
def upsF (T : List Nat) (p : Int) : List Nat := if 1 ≤ p ∧ p ≤ 4 then fixF (fixF T p.toNat) 0 else if p = 0 then fixF T 0 else T
def withF (T : List Nat) (n : Int) (b : List Nat) : List Nat := if 0 ≤ n ∧ n ≤ 15 then fixF (fixF (setRow 32 T (5 + n).toNat (leafD b)) ((4 + n) / 4).toNat) 0 else T
theorem withF_len {T : List Nat} {n : Int} {b : List Nat} (h : T.length = 672) : (withF T n b).length = 672 := by
  unfold withF; split
  · rename_i hn
    have h1 : (setRow 32 T (5 + n).toNat (leafD b)).length = 672 := by rw [setRow_len (by omega) (leafD_len _)]; exact h
    exact fixF_len (fixF_len h1 (by omega)) (by omega)
  · exact h
theorem upsF_out {T : List Nat} {p : Int} (h : p < 0) : upsF T p = T := by unfold upsF; rw [if_neg (by omega), if_neg (by omega)]
theorem upsF_zero {T : List Nat} : upsF T 0 = fixF T 0 := by unfold upsF; rw [if_neg (by omega), if_pos rfl]
theorem upsF_step {T : List Nat} {p : Int} (h : 0 ≤ p ∧ p ≤ 4) : upsF T p = upsF (fixF T p.toNat) (upF p) := by
  by_cases h0 : p = 0
  · have h1 : upF p = -1 := by unfold upF; rw [if_neg (by omega)]
    rw [h1, h0, upsF_zero, Int.toNat_zero, upsF_out (T := fixF T 0) (by omega : (-1 : Int) < 0)]
  · have h1 : upF p = 0 := by unfold upF; rw [if_pos (by omega)]; omega
    have h2 : upsF T p = fixF (fixF T p.toNat) 0 := by unfold upsF; rw [if_pos (by omega)]
    rw [h1, h2, upsF_zero]
theorem upF_le {p : Int} : upF p ≤ 4 := by unfold upF; split <;> omega
theorem upF_dec {p : Int} (h : 0 ≤ p) : (upF p + 1).toNat < (p + 1).toNat := by unfold upF; split <;> omega
def okTo (T : List Nat) (n : Nat) : Prop := ∀ p, p < n → row T p = sum (belowF T p)
instance {T : List Nat} {n : Nat} : Decidable (okTo T n) := inferInstanceAs (Decidable (∀ p, p < n → row T p = sum (belowF T p)))
def rightF (T : List Nat) : Bool := decide (okTo T 5)
theorem okTo_succ {T : List Nat} {n : Nat} : okTo T (n + 1) ↔ okTo T n ∧ row T n = sum (belowF T n) :=
  ⟨fun h => ⟨fun p hp => h p (by omega), h n (by omega)⟩, fun h p hp => by
    rcases Nat.lt_or_ge p n with h1 | h1
    · exact h.1 p h1
    · obtain rfl : p = n := by omega
      exact h.2⟩
end Go.Aw.Tree
namespace Go.Proofs.YtlaeldgebecppaaGreat.Tr
open Go Go.RowKit Go.Aw Go.Aw.Sha Go.Aw.Tree Go.Proofs.YtlaeldgebecppaaGreat.Sh
set_option linter.unusedVariables false
set_option linter.unusedSimpArgs false
set_option maxRecDepth 8000
abbrev ints (l : List Int) (ex : Bool) : AV := .p (.sl 1 (l.map fun n => [PVal.i n]) ex)
theorem isPlace_c (p : Int) : PCall Tryz.prog 138 [.p (.i p)] (.p (.b (plc p))) := by
  refine pcall_of Tryz.func138 rfl (fun w0 F S0 M0 => ?_)
  repeat' (first | refine rnA ?_ | refine rnS ?_ | refine rnG ?_ | refine rnU ?_ | ((fail_if_success (refine rnKn ?_)); refine rnP ?_ ?_ <;> (intro hq; try (have hq' := hq; simp only [hqs] at hq'))) | refine rkA ?_ | refine rkS ?_ | refine rkF ?_ | refine rkU ?_ | ((fail_if_success (refine rkKn ?_)); refine rkP ?_ ?_ <;> (intro hq; try (have hq' := hq; simp only [hqs] at hq'))) | refine stp ?_ | refine aws_draws [] mixed (by kernel_rfl) ?_ | refine ifT ?_ | refine ifF ?_ | (refine ifQ ?_ ?_ <;> (try (intro hn))) | (refine ifB ?_ ?_ <;> (intro hq; try (have hq' := hq; simp only [hqs] at hq'))))
  all_goals (refine rt1 rfl rfl finS_p ?_; simp [plc, *]; try omega)
instance {p : Int} : PC Tryz.prog 138 [.p (.i p)] True (.p (.b (plc p))) := ⟨fun _ => isPlace_c p⟩
theorem plc_cases (p : Int) : (plc p = true ∧ (0 ≤ p ∧ p < 21) ∧ (!plc p) = false) ∨ (plc p = false ∧ ¬ (0 ≤ p ∧ p < 21) ∧ (!plc p) = true) := by
  by_cases h : 0 ≤ p ∧ p < 21
  · have : plc p = true := by simp [plc, h]
    exact .inl ⟨this, h, by rw [this]; rfl⟩
  · have : plc p = false := decide_eq_false h
    exact .inr ⟨this, h, by rw [this]; rfl⟩
theorem leafOf_c (p : Int) : PCall Tryz.prog 68 [.p (.i p)] (.p (.i (leafOf p))) := by
  refine pcall_of Tryz.func68 rfl (fun w0 F S0 M0 => ?_)
  rcases plc_cases p with ⟨h0, h1, h0'⟩ | ⟨h0, h1, h0'⟩
  all_goals repeat' (first | refine rnA ?_ | refine rnS ?_ | refine rnG ?_ | refine rnU ?_ | ((fail_if_success (refine rnKn ?_)); refine rnP ?_ ?_ <;> (intro hq; try (have hq' := hq; simp only [hqs] at hq'))) | refine rkA ?_ | refine rkS ?_ | refine rkF ?_ | refine rkU ?_ | ((fail_if_success (refine rkKn ?_)); refine rkP ?_ ?_ <;> (intro hq; try (have hq' := hq; simp only [hqs] at hq'))) | refine stp ?_ | refine aws_draws [] mixed (by kernel_rfl) ?_ | refine ifT ?_ | refine ifF ?_ | (refine ifQ ?_ ?_ <;> (try (intro hn))) | (refine ifB ?_ ?_ <;> (intro hq; try (have hq' := hq; simp only [hqs] at hq'))))
  all_goals first | (refine rt1 rfl rfl finS_p ?_; unfold leafOf; split <;> first | rfl | (exfalso; omega)) | (exfalso; simp_all; done)
instance {p : Int} : PC Tryz.prog 68 [.p (.i p)] True (.p (.i (leafOf p))) := ⟨fun _ => leafOf_c p⟩
theorem up_c (p : Int) : PCall Tryz.prog 67 [.p (.i p)] (.p (.i (upF p))) := by
  refine pcall_of Tryz.func67 rfl (fun w0 F S0 M0 => ?_)
  rcases plc_cases p with ⟨h0, h1, h0'⟩ | ⟨h0, h1, h0'⟩
  all_goals repeat' (first | refine rnA ?_ | refine rnS ?_ | refine rnG ?_ | refine rnU ?_ | ((fail_if_success (refine rnKn ?_)); refine rnP ?_ ?_ <;> (intro hq; try (have hq' := hq; simp only [hqs] at hq'))) | refine rkA ?_ | refine rkS ?_ | refine rkF ?_ | refine rkU ?_ | ((fail_if_success (refine rkKn ?_)); refine rkP ?_ ?_ <;> (intro hq; try (have hq' := hq; simp only [hqs] at hq'))) | refine stp ?_ | refine aws_draws [] mixed (by kernel_rfl) ?_ | refine ifT ?_ | refine ifF ?_ | (refine ifQ ?_ ?_ <;> (try (intro hn))) | (refine ifB ?_ ?_ <;> (intro hq; try (have hq' := hq; simp only [hqs] at hq'))))
  all_goals first | (refine rt1 rfl rfl finS_p ?_; unfold upF; split <;> first | rfl | (exfalso; omega)) | (exfalso; simp_all; done)
instance {p : Int} : PC Tryz.prog 67 [.p (.i p)] True (.p (.i (upF p))) := ⟨fun _ => up_c p⟩
theorem level_c (p : Int) : PCall Tryz.prog 69 [.p (.i p)] (.p (.i (levelF p))) := by
  refine pcall_of Tryz.func69 rfl (fun w0 F S0 M0 => ?_)
  repeat' (first | refine rnA ?_ | refine rnS ?_ | refine rnG ?_ | refine rnU ?_ | ((fail_if_success (refine rnKn ?_)); refine rnP ?_ ?_ <;> (intro hq; try (have hq' := hq; simp only [hqs] at hq'))) | refine rkA ?_ | refine rkS ?_ | refine rkF ?_ | refine rkU ?_ | ((fail_if_success (refine rkKn ?_)); refine rkP ?_ ?_ <;> (intro hq; try (have hq' := hq; simp only [hqs] at hq'))) | refine stp ?_ | refine aws_draws [] mixed (by kernel_rfl) ?_ | refine ifT ?_ | refine ifF ?_ | (refine ifQ ?_ ?_ <;> (try (intro hn))) | (refine ifB ?_ ?_ <;> (intro hq; try (have hq' := hq; simp only [hqs] at hq'))))
  have hb := levelF_in p
  refine aws_loopF [3, 4, 6, 7, 8, 9, 10, 11] [] (fun (x : Int × Int) => [(3, .p (.i x.1)), (4, .p (.i x.2))]) (fun _ => []) (fun x => levelF p = x.1 + 1 + levelF x.2 ∧ -1 ≤ x.1) (fun x => (x.2 + 1).toNat) (-1, p) ⟨by simp, by simp⟩ (by exact knA) (by exact knA) ?_
  rintro ⟨n, q⟩ β γ ⟨h1, h2⟩
  simp only at h1 h2
  have hq1 := levelF_in q
  dsimp only
  rcases plc_cases q with ⟨h0, h3, _⟩ | ⟨h0, h3, _⟩
  · have := levelF_up h0
    repeat' (first | refine rnA ?_ | refine rnS ?_ | refine rnG ?_ | refine rnU ?_ | ((fail_if_success (refine rnKn ?_)); refine rnP ?_ ?_ <;> (intro hq; try (have hq' := hq; simp only [hqs] at hq'))) | refine rkA ?_ | refine rkS ?_ | refine rkF ?_ | refine rkU ?_ | ((fail_if_success (refine rkKn ?_)); refine rkP ?_ ?_ <;> (intro hq; try (have hq' := hq; simp only [hqs] at hq'))) | refine stp ?_ | refine aws_draws [] mixed (by kernel_rfl) ?_ | refine ifT ?_ | refine ifF ?_ | (refine ifQ ?_ ?_ <;> (try (intro hn))) | (refine ifB ?_ ?_ <;> (intro hq; try (have hq' := hq; simp only [hqs] at hq'))))
    exact ⟨(n + 1, upF q), upF_lt h0, ⟨by dsimp only; omega, by dsimp only; omega⟩, by exact frA⟩
  · have := levelF_out h0
    repeat' (first | refine rnA ?_ | refine rnS ?_ | refine rnG ?_ | refine rnU ?_ | ((fail_if_success (refine rnKn ?_)); refine rnP ?_ ?_ <;> (intro hq; try (have hq' := hq; simp only [hqs] at hq'))) | refine rkA ?_ | refine rkS ?_ | refine rkF ?_ | refine rkU ?_ | ((fail_if_success (refine rkKn ?_)); refine rkP ?_ ?_ <;> (intro hq; try (have hq' := hq; simp only [hqs] at hq'))) | refine stp ?_ | refine aws_draws [] mixed (by kernel_rfl) ?_ | refine ifT ?_ | refine ifF ?_ | (refine ifQ ?_ ?_ <;> (try (intro hn))) | (refine ifB ?_ ?_ <;> (intro hq; try (have hq' := hq; simp only [hqs] at hq'))))
    refine rt1 rfl rfl finS_p (ri ?_); omega
instance {p : Int} : PC Tryz.prog 69 [.p (.i p)] True (.p (.i (levelF p))) := ⟨fun _ => level_c p⟩
end Go.Proofs.YtlaeldgebecppaaGreat.Tr
namespace Go.Proofs.YtlaeldgebecppaaGreat.Tr
open Go Go.RowKit Go.Aw Go.Aw.Sha Go.Aw.Tree Go.Proofs.YtlaeldgebecppaaGreat.Sh
set_option linter.unusedVariables false
set_option linter.unusedSimpArgs false
set_option maxRecDepth 8000
theorem kids_c (p : Int) : PCall Tryz.prog 64 [.p (.i p)] (ints (kidsF p) false) := by
  refine pcall_of Tryz.func64 rfl (fun w0 F S0 M0 => ?_)
  rcases plc_cases p with ⟨h0, h1, h0'⟩ | ⟨h0, h1, h0'⟩
  · by_cases h5 : 5 ≤ p
    · have hd5 : decide (5 ≤ p) = true := decide_eq_true h5
      repeat' (first | refine rnA ?_ | refine rnS ?_ | refine rnG ?_ | refine rnU ?_ | ((fail_if_success (refine rnKn ?_)); refine rnP ?_ ?_ <;> (intro hq; try (have hq' := hq; simp only [hqs] at hq'))) | refine rkA ?_ | refine rkS ?_ | refine rkF ?_ | refine rkU ?_ | ((fail_if_success (refine rkKn ?_)); refine rkP ?_ ?_ <;> (intro hq; try (have hq' := hq; simp only [hqs] at hq'))) | refine stp ?_ | refine aws_draws [] mixed (by kernel_rfl) ?_ | refine ifT ?_ | refine ifF ?_ | (refine ifQ ?_ ?_ <;> (try (intro hn))) | (refine ifB ?_ ?_ <;> (intro hq; try (have hq' := hq; simp only [hqs] at hq'))))
      rw [kidsF_out (by omega)]
      exact rt1 rfl rfl (.one .nil) rfl
    · have hd5 : decide (5 ≤ p) = false := decide_eq_false h5
      repeat' (first | refine rnA ?_ | refine rnS ?_ | refine rnG ?_ | refine rnU ?_ | ((fail_if_success (refine rnKn ?_)); refine rnP ?_ ?_ <;> (intro hq; try (have hq' := hq; simp only [hqs] at hq'))) | refine rkA ?_ | refine rkS ?_ | refine rkF ?_ | refine rkU ?_ | ((fail_if_success (refine rkKn ?_)); refine rkP ?_ ?_ <;> (intro hq; try (have hq' := hq; simp only [hqs] at hq'))) | refine stp ?_ | refine aws_draws [] mixed (by kernel_rfl) ?_ | refine ifT ?_ | refine ifF ?_ | (refine ifQ ?_ ?_ <;> (try (intro hn))) | (refine ifB ?_ ?_ <;> (intro hq; try (have hq' := hq; simp only [hqs] at hq'))))
      refine aws_says (says_nil (t := 3) (o := 900) (ty := 3) (es := 1) rfl rfl (by decide)) ?_
      refine aws_loopF [3, 4, 12, 13, 14, 15, 16, 17, 18, 19, 20, 21, 22, 23] [900] (fun (x : Nat × Nat × List Int) => [(3, .o (.osl 900 x.2.1 1 0 x.2.2.length)), (12, .p (.i x.1))]) (fun x => [(900, (x.2.1 + 1, some (.buf 3 1 (x.2.2.map fun n => [PVal.i n]))))])
        (fun x => x.1 ≤ 4 ∧ x.2.2 = (kidsF p).take x.1) (fun x => 4 - x.1) (0, 0, []) ⟨Nat.zero_le _, rfl⟩ (by exact knA) (by exact knA) ?_
      rintro ⟨i, g, out⟩ β γ ⟨hi, hout⟩
      simp only at hi hout
      have hkl : (kidsF p).length = 4 := by rw [kidsF_in (by omega)]; rfl
      have hol : out.length = i := by rw [hout, List.length_take, hkl]; omega
      dsimp only
      repeat' (first | refine rnA ?_ | refine rnS ?_ | refine rnG ?_ | refine rnU ?_ | ((fail_if_success (refine rnKn ?_)); refine rnP ?_ ?_ <;> (intro hq; try (have hq' := hq; simp only [hqs] at hq'))) | refine rkA ?_ | refine rkS ?_ | refine rkF ?_ | refine rkU ?_ | ((fail_if_success (refine rkKn ?_)); refine rkP ?_ ?_ <;> (intro hq; try (have hq' := hq; simp only [hqs] at hq'))) | refine stp ?_ | refine aws_draws [] mixed (by kernel_rfl) ?_ | refine ifT ?_ | refine ifF ?_ | (refine ifQ ?_ ?_ <;> (try (intro hn))) | (refine ifB ?_ ?_ <;> (intro hq; try (have hq' := hq; simp only [hqs] at hq'))))
      · refine ⟨(i + 1, g + 1, out ++ [4 * p + i + 1]), by dsimp only; omega, ⟨by dsimp only; omega, ?_⟩, by exact frA⟩
        dsimp only
        rw [take_snocD (by omega), ← hout, kidsF_get (by omega) (by omega)]
        congr 2; omega
      · refine rt1 rfl rfl (.one (finC_map rfl rfl rfl rfl)) (rs ?_)
        rw [hout, List.take_of_length_le (by omega)]
  · repeat' (first
    | refine rnA ?_
    | refine rnS ?_
    | refine rnG ?_
    | refine rnU ?_
    | ((fail_if_success (refine rnKn ?_)); refine rnP ?_ ?_ <;> (intro hq; try (have hq' := hq; simp only [hqs] at hq')))
    | refine rkA ?_
    | refine rkS ?_
    | refine rkF ?_
    | refine rkU ?_
    | ((fail_if_success (refine rkKn ?_)); refine rkP ?_ ?_ <;> (intro hq; try (have hq' := hq; simp only [hqs] at hq')))
    | refine stp ?_
    | refine aws_draws [] mixed (by kernel_rfl) ?_
    | refine ifT ?_
    | refine ifF ?_
    | (refine ifQ ?_ ?_ <;> (try (intro hn)))
    | (refine ifB ?_ ?_ <;> (intro hq; try (have hq' := hq; simp only [hqs] at hq'))))
    rw [kidsF_out (by omega)]
    exact rt1 rfl rfl (.one .nil) rfl
instance {p : Int} : PC Tryz.prog 64 [.p (.i p)] True (ints (kidsF p) false) := ⟨fun _ => kids_c p⟩
theorem rkids_c (p : Int) : PCall Tryz.prog 191 [.p (.i p)] (ints (kidsF p) true) := by
  refine pcall_of Tryz.func191 rfl (fun w0 F S0 M0 => ?_)
  repeat' (first | refine rnA ?_ | refine rnS ?_ | refine rnG ?_ | refine rnU ?_ | ((fail_if_success (refine rnKn ?_)); refine rnP ?_ ?_ <;> (intro hq; try (have hq' := hq; simp only [hqs] at hq'))) | refine rkA ?_ | refine rkS ?_ | refine rkF ?_ | refine rkU ?_ | ((fail_if_success (refine rkKn ?_)); refine rkP ?_ ?_ <;> (intro hq; try (have hq' := hq; simp only [hqs] at hq'))) | refine stp ?_ | refine aws_draws [] mixed (by kernel_rfl) ?_ | refine ifT ?_ | refine ifF ?_ | (refine ifQ ?_ ?_ <;> (try (intro hn))) | (refine ifB ?_ ?_ <;> (intro hq; try (have hq' := hq; simp only [hqs] at hq'))))
  · rw [kidsF_out (by first | omega | (simp_all; omega))]
    exact rt1 rfl rfl (.one .nil) rfl
  · rw [kidsF_out (by first | omega | (simp_all; omega))]
    exact rt1 rfl rfl (.one .nil) rfl
  · rw [kidsF_in (by first | omega | (simp_all; omega))]
    exact rt1 rfl rfl finS_p rfl
instance {p : Int} : PC Tryz.prog 191 [.p (.i p)] True (ints (kidsF p) true) := ⟨fun _ => rkids_c p⟩
end Go.Proofs.YtlaeldgebecppaaGreat.Tr
