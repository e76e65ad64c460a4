/- the reference, chapter 06: which carts may be; the reference's lists: which may be; the reference's buckets: of what something is known, and where keys stand; buckets: what the fixed calls of alive of 19 come to; buckets: alive of 19; buckets in plain Lean: when they are the same, and how many stand there; buckets, the law BucketSame; the reference's buckets: those of a part and a leaf, and their texts; a list as the reference's; Trees of digests in plain Lean: 21 rows of 32 bytes in one flat list. Nothing here speaks of a program.; trees: what is above and below a place.; trees: children -/
import Derived.Test.YtclcfjejpogdlaaGreatCS35
import Derived.Test.YtclcfjejpogdlaaGreatCS29
import Derived.Test.YtclcfjejpogdlaaGreatCS23
import Derived.Test.YtclcfjejpogdlaaGreatCS30
import Derived.Test.YtclcfjejpogdlaaGreatCS34
import Derived.Test.YtclcfjejpogdlaaGreatCS18
import Derived.Test.YtclcfjejpogdlaaGreatCS05
import Derived.Test.YtclcfjejpogdlaaGreatCS21
namespace Go.Proofs.YtclcfjejpogdlaaGreat.Cr
open Go Go.RowKit Go.Aw Go.Aw.Cart Go.Aw.Ord Go.Proofs.YtclcfjejpogdlaaGreat.Ca
set_option linter.unusedVariables false
set_option linter.unusedSimpArgs false
set_option maxRecDepth 8000
set_option maxHeartbeats 4000000
/-! which may be -/
attribute [local irreducible] hasF entF rowOk
end Go.Proofs.YtclcfjejpogdlaaGreat.Cr
namespace Go.Proofs.YtclcfjejpogdlaaGreat.Wi
open Go Go.RowKit Go.Aw Go.Aw.Cart Go.Proofs.YtclcfjejpogdlaaGreat.Ca
set_option linter.unusedVariables false
set_option linter.unusedSimpArgs false
set_option maxRecDepth 8000
set_option maxHeartbeats 4000000
open W9
end Go.Proofs.YtclcfjejpogdlaaGreat.Wi
namespace Go.Proofs.YtclcfjejpogdlaaGreat.Wi
open Go Go.RowKit Go.Aw Go.Aw.Sha Go.Aw.Cart Go.Proofs.YtclcfjejpogdlaaGreat.Ca Go.Proofs.YtclcfjejpogdlaaGreat.Rg Go.Proofs.YtclcfjejpogdlaaGreat.Sh
set_option linter.unusedVariables false
set_option linter.unusedSimpArgs false
set_option maxRecDepth 8000
set_option maxHeartbeats 4000000
namespace M1
theorem lopC {C : Ctx} {o : Oper} {σ : St} {e : Eff} {ro : Nat → Bool} (h : LOp C o σ e ro := by
    first | exact B1.lopC | exact Y1.lopC | fail) : LOp C o σ e ro := h
section steps
variable {C : Ctx} {ops : Array Oper} {o : Oper} {rest : List Oper} {K : St → Prop} {σ : St} {e : Eff} {ro : Nat → Bool} {W : List (Nat × Nat)} {i : Nat}
theorem rnC {d : Nat} (hk : RunN C ops rest K (e.app (some d) σ)) (hg : Guard ops σ o true := by first | exact gd_n rfl rfl | exact gd_t rfl rfl rfl rfl | exact gd_t rfl rfl rfl (by assumption)) (hd : o.dst = some d := by rfl) (h : LOp C o σ e ro := by exact lopC) : RunN C ops (o :: rest) K σ := rn_any hg hd h hk
theorem rkC {d : Nat} (hk : RunK C ops W (i + 1) rest K (e.app (some d) σ)) (hg : Guard ops σ o true := by first | exact gd_n rfl rfl | exact gd_t rfl rfl rfl rfl | exact gd_t rfl rfl rfl (by assumption)) (hd' : o.dst = some d := by rfl) (hd : dOk C o.dst = true := by rfl) (h : LOp C o σ e ro := by exact lopC)
    (hro : ∀ x, ro x = true → okObj ops W i x = true := by first | exact fun _ => ro_none | exact ro_one rfl | exact ro_k1 rfl | exact ro_one (by kernel_rfl) | exact ro_k1 (by kernel_rfl) | exact ro_kIn (by decide)) (hob : ∀ p ∈ e.obj, (i, p.1) ∈ W := by first | exact ob_none | exact ob_one (by decide) | decide) : RunK C ops W i (o :: rest) K σ := rk_wr hg hd' hd h hro hob hk
end steps
end M1
open M1
/-- where a key stands -/
def plE (r : Bool) (e : Kd) : Int := if (r && (!emptyF e.2 && keyR e.1)) = true then (((sum e.1).getD 0 default / 2 : Nat) : Int) else -1
end Go.Proofs.YtclcfjejpogdlaaGreat.Wi
namespace Go.Proofs.YtclcfjejpogdlaaGreat.Wi
open Go Go.RowKit Go.Aw Go.Aw.Cart Go.Proofs.YtclcfjejpogdlaaGreat.Ca Go.Proofs.YtclcfjejpogdlaaGreat.Rg
set_option linter.unusedVariables false
set_option linter.unusedSimpArgs false
set_option maxRecDepth 8000
end Go.Proofs.YtclcfjejpogdlaaGreat.Wi
namespace Go.Proofs.YtclcfjejpogdlaaGreat.Wi
open Go Go.RowKit Go.Aw Go.Aw.Cart Go.Proofs.YtclcfjejpogdlaaGreat.Ca Go.Proofs.YtclcfjejpogdlaaGreat.Rg
set_option linter.unusedVariables false
set_option linter.unusedSimpArgs false
set_option maxRecDepth 8000
set_option maxHeartbeats 4000000
open B1
end Go.Proofs.YtclcfjejpogdlaaGreat.Wi
namespace Go.Proofs.YtclcfjejpogdlaaGreat.Wi
open Go Go.RowKit Go.Aw Go.Aw.Cart Go.Proofs.YtclcfjejpogdlaaGreat.Ca Go.Proofs.YtclcfjejpogdlaaGreat.Rg
set_option linter.unusedVariables false
set_option linter.unusedSimpArgs false
abbrev upK (l : List Kd) : Prop := l.Pairwise fun a b => bLt a.1 b.1 = true
theorem mem_find : ∀ {l : List Kd}, upK l → ∀ {e : Kd}, e ∈ l → findK l e.1 = (e.2, true)
  | [], _, e, he => by cases he
  | a :: l, hu, e, he => by
    rw [findK]
    rcases List.mem_cons.1 he with q | q
    · rw [q, if_pos rfl]
    · have hlt := (List.pairwise_cons.1 hu).1 e q
      rw [if_neg (fun x => by rw [x, bLt_irr] at hlt; cases hlt)]
      exact mem_find (List.pairwise_cons.1 hu).2 q
theorem find_mem : ∀ {l : List Kd} {k : List Nat} {c : Crt}, findK l k = (c, true) → (k, c) ∈ l
  | [], k, c, h => by cases h
  | a :: l, k, c, h => by
    rw [findK] at h
    by_cases q : a.1 = k
    · rw [if_pos q] at h
      obtain rfl := (Prod.mk.inj h).1
      subst q
      exact List.mem_cons_self
    · rw [if_neg q] at h
      exact List.mem_cons_of_mem _ (find_mem h)
theorem mem_iff {l : List Kd} (hu : upK l) {e : Kd} : e ∈ l ↔ findK l e.1 = (e.2, true) := ⟨mem_find hu, fun h => find_mem h⟩
/-! another cart of one key -/
/-! how many stand there -/
end Go.Proofs.YtclcfjejpogdlaaGreat.Wi
namespace Go.Proofs.YtclcfjejpogdlaaGreat.Wi
open Go Go.RowKit Go.Aw Go.Aw.Cart Go.Proofs.YtclcfjejpogdlaaGreat.Ca Go.Proofs.YtclcfjejpogdlaaGreat.Rg
set_option linter.unusedVariables false
set_option linter.unusedSimpArgs false
set_option maxRecDepth 8000
set_option maxHeartbeats 4000000
theorem txs_get (l : List Kd) (part : Int) {j : Nat} (hj : j < 16) : (txsF l part).getD j default = listB ((bktsF l part).getD j []) := by
  have h : j < (bktsF l part).length := by rw [bkts_len]; exact hj
  unfold txsF
  rw [List.getD_eq_getElem?_getD, List.getElem?_map, List.getD_eq_getElem?_getD, List.getElem?_eq_getElem h]; rfl
theorem unl_len (a b : List Kd) (part : Int) : (unlF a b part).length ≤ 16 := lvTo_len _ _
theorem lin_of {l : List Kd} (hg : greatL l = false) (hin : ∀ k ∈ l, KdI k) (hl : l.length ≤ 9223372036854775807) : LIn l := by
  obtain ⟨h1, h2⟩ := greatL_no hg
  exact ⟨by omega, hin, fun k hk => by have := (h2 k hk).2; omega⟩
end Go.Proofs.YtclcfjejpogdlaaGreat.Wi
namespace Go.Proofs.YtclcfjejpogdlaaGreat.Wi
open Go Go.RowKit Go.Aw Go.Aw.Sha Go.Aw.Cart Go.Proofs.YtclcfjejpogdlaaGreat.Ca Go.Proofs.YtclcfjejpogdlaaGreat.Rg Go.Proofs.YtclcfjejpogdlaaGreat.Sh
set_option linter.unusedVariables false
set_option linter.unusedSimpArgs false
set_option maxRecDepth 8000
set_option maxHeartbeats 4000000
open M1
theorem kdW_of' {l : List Kd} (hin : ∀ k ∈ l, KdI k) (ho : KOk l) : ∀ k ∈ l, KdW k := fun k h => by
  have hr := ho.cart k h
  exact ⟨(hin k h).key, ho.key k h, (hin k h).vec, (ok_iff.1 hr).few, ok_ents hr (hin k h).vec⟩
def atP (p part leaf : Int) : Bool := decide (0 ≤ p) && (decide (p / 16 = part) && decide (p % 16 = leaf))
def atF (r : Bool) (l : List Kd) (part leaf : Int) : List Kd := l.filter fun e => atP (plE r e) part leaf
end Go.Proofs.YtclcfjejpogdlaaGreat.Wi
namespace Go.Proofs.YtclcfjejpogdlaaGreat.Wi
open Go Go.RowKit Go.Aw Go.Aw.Cart Go.Proofs.YtclcfjejpogdlaaGreat.Ca
set_option linter.unusedVariables false
set_option linter.unusedSimpArgs false
set_option maxRecDepth 8000
set_option maxHeartbeats 4000000
open W9
end Go.Proofs.YtclcfjejpogdlaaGreat.Wi
namespace Go.Aw.Tree
open Go.Aw Go.Aw.Sha
set_option linter.unusedVariables false
set_option linter.unusedSimpArgs false
attribute [local irreducible] sum
theorem take_snocD {α : Type} [Inhabited α] {l : List α} {k : Nat} (h : k < l.length) : l.take (k + 1) = l.take k ++ [l.getD k default] := by
  rw [List.take_succ_eq_append_getElem h, List.getD_eq_getElem?_getD, List.getElem?_eq_getElem h]; rfl
def plc (p : Int) : Bool := decide (0 ≤ p ∧ p < 21)
def kidsF (p : Int) : List Int := if 0 ≤ p ∧ p ≤ 4 then [4 * p + 1, 4 * p + 2, 4 * p + 3, 4 * p + 4] else []
def leafOf (p : Int) : Int := if 5 ≤ p ∧ p < 21 then p - 5 else -1
theorem kidsF_in {p : Int} (h : 0 ≤ p ∧ p ≤ 4) : kidsF p = [4 * p + 1, 4 * p + 2, 4 * p + 3, 4 * p + 4] := by simp [kidsF, h]
theorem kidsF_out {p : Int} (h : ¬ (0 ≤ p ∧ p ≤ 4)) : kidsF p = [] := by unfold kidsF; rw [if_neg h]
theorem kidsF_get {p : Int} (h : 0 ≤ p ∧ p ≤ 4) {i : Nat} (hi : i < 4) : (kidsF p).getD i default = 4 * p + 1 + i := by
  rw [kidsF_in h]
  match i, hi with
  | 0, _ => simp
  | 1, _ => simp; omega
  | 2, _ => simp; omega
  | 3, _ => simp; omega
abbrev row (T : List Nat) (p : Nat) : List Nat := rowOf 32 T p
def belowTo (T : List Nat) (p : Int) : Nat → List Nat
  | 0 => [1]
  | i + 1 => belowTo T p i ++ row T (4 * p + 1 + i).toNat
def belowF (T : List Nat) (p : Int) : List Nat := if 0 ≤ p ∧ p ≤ 4 then belowTo T p 4 else []
theorem row_len {T : List Nat} {p : Nat} (h : T.length = 672) (hp : p < 21) : (row T p).length = 32 := rowOf_len (by omega)
theorem belowTo_len {T : List Nat} {p : Int} (h : T.length = 672) (hp : 0 ≤ p ∧ p ≤ 4) : ∀ i, i ≤ 4 → (belowTo T p i).length = 1 + 32 * i
  | 0, _ => rfl
  | i + 1, hi => by rw [belowTo, List.length_append, belowTo_len h hp i (by omega), row_len h (by omega)]; omega
theorem belowF_len {T : List Nat} {p : Int} (h : T.length = 672) : (belowF T p).length ≤ 129 := by
  unfold belowF; split
  · rename_i hp; rw [belowTo_len h hp 4 (by omega)]; omega
  · simp
def leafD (b : List Nat) : List Nat := sum (0 :: b)
theorem sumLen (b : List Nat) : (sum b).length = 32 := sum_len b
def fixF (T : List Nat) (p : Nat) : List Nat := setRow 32 T p (sum (belowF T p))
theorem leafD_len (b : List Nat) : (leafD b).length = 32 := sum_len _
theorem fixF_len {T : List Nat} {p : Nat} (h : T.length = 672) (hp : p < 21) : (fixF T p).length = 672 := by
  unfold fixF; rw [setRow_len (by omega) (sumLen _)]; exact h
/-- the inner places from 4 down, so many of them -/
def innerTo (T : List Nat) : Nat → List Nat
  | 0 => T
  | i + 1 => fixF (innerTo T i) (4 - i)
def innerF (T : List Nat) : List Nat := innerTo T 5
theorem innerTo_len {T : List Nat} (h : T.length = 672) : ∀ i, (innerTo T i).length = 672
  | 0 => h
  | i + 1 => fixF_len (innerTo_len h i) (by omega)
/-- the leaves, so many of them laid -/
def leavesTo (ls : List (List Nat)) : Nat → List Nat
  | 0 => List.replicate 672 0
  | i + 1 => setRow 32 (leavesTo ls i) (5 + i) (leafD (ls.getD i default))
theorem leavesTo_len (ls : List (List Nat)) : ∀ i, i ≤ 16 → (leavesTo ls i).length = 672
  | 0, _ => List.length_replicate
  | i + 1, h => by rw [leavesTo, setRow_len (by rw [leavesTo_len ls i (by omega)]; omega) (leafD_len _)]; exact leavesTo_len ls i (by omega)
def ofF (ls : List (List Nat)) : List Nat := innerF (leavesTo ls 16)
theorem ofF_len (ls : List (List Nat)) : (ofF ls).length = 672 := innerTo_len (leavesTo_len ls 16 (by omega)) 5
def okTo (T : List Nat) (n : Nat) : Prop := ∀ p, p < n → row T p = sum (belowF T p)
instance {T : List Nat} {n : Nat} : Decidable (okTo T n) := inferInstanceAs (Decidable (∀ p, p < n → row T p = sum (belowF T p)))
def rightF (T : List Nat) : Bool := decide (okTo T 5)
end Go.Aw.Tree
namespace Go.Proofs.YtclcfjejpogdlaaGreat.Tr
open Go Go.RowKit Go.Aw Go.Aw.Sha Go.Aw.Tree Go.Proofs.YtclcfjejpogdlaaGreat.Sh
set_option linter.unusedVariables false
set_option linter.unusedSimpArgs false
set_option maxRecDepth 8000
abbrev ints (l : List Int) (ex : Bool) : AV := .p (.sl 1 (l.map fun n => [PVal.i n]) ex)
theorem isPlace_c (p : Int) : PCall Tryz.prog 232 [.p (.i p)] (.p (.b (plc p))) := by
  refine pcall_of Tryz.func232 rfl (fun w0 F S0 M0 => ?_)
  repeat' (first | refine rnA ?_ | refine rnS ?_ | refine rnG ?_ | refine rnU ?_ | ((fail_if_success (refine rnKn ?_)); refine rnP ?_ ?_ <;> (intro hq; try (have hq' := hq; simp only [hqs] at hq'))) | refine rkA ?_ | refine rkS ?_ | refine rkF ?_ | refine rkU ?_ | ((fail_if_success (refine rkKn ?_)); refine rkP ?_ ?_ <;> (intro hq; try (have hq' := hq; simp only [hqs] at hq'))) | refine stp ?_ | refine aws_draws [] mixed (by kernel_rfl) ?_ | refine ifT ?_ | refine ifF ?_ | (refine ifQ ?_ ?_ <;> (try (intro hn))) | (refine ifB ?_ ?_ <;> (intro hq; try (have hq' := hq; simp only [hqs] at hq'))))
  all_goals (refine rt1 rfl rfl finS_p ?_; simp [plc, *]; try omega)
instance {p : Int} : PC Tryz.prog 232 [.p (.i p)] True (.p (.b (plc p))) := ⟨fun _ => isPlace_c p⟩
theorem plc_cases (p : Int) : (plc p = true ∧ (0 ≤ p ∧ p < 21) ∧ (!plc p) = false) ∨ (plc p = false ∧ ¬ (0 ≤ p ∧ p < 21) ∧ (!plc p) = true) := by
  by_cases h : 0 ≤ p ∧ p < 21
  · have : plc p = true := by simp [plc, h]
    exact .inl ⟨this, h, by rw [this]; rfl⟩
  · have : plc p = false := decide_eq_false h
    exact .inr ⟨this, h, by rw [this]; rfl⟩
theorem leafOf_c (p : Int) : PCall Tryz.prog 187 [.p (.i p)] (.p (.i (leafOf p))) := by
  refine pcall_of Tryz.func187 rfl (fun w0 F S0 M0 => ?_)
  rcases plc_cases p with ⟨h0, h1, h0'⟩ | ⟨h0, h1, h0'⟩
  all_goals repeat' (first | refine rnA ?_ | refine rnS ?_ | refine rnG ?_ | refine rnU ?_ | ((fail_if_success (refine rnKn ?_)); refine rnP ?_ ?_ <;> (intro hq; try (have hq' := hq; simp only [hqs] at hq'))) | refine rkA ?_ | refine rkS ?_ | refine rkF ?_ | refine rkU ?_ | ((fail_if_success (refine rkKn ?_)); refine rkP ?_ ?_ <;> (intro hq; try (have hq' := hq; simp only [hqs] at hq'))) | refine stp ?_ | refine aws_draws [] mixed (by kernel_rfl) ?_ | refine ifT ?_ | refine ifF ?_ | (refine ifQ ?_ ?_ <;> (try (intro hn))) | (refine ifB ?_ ?_ <;> (intro hq; try (have hq' := hq; simp only [hqs] at hq'))))
  all_goals first | (refine rt1 rfl rfl finS_p ?_; unfold leafOf; split <;> first | rfl | (exfalso; omega)) | (exfalso; simp_all; done)
instance {p : Int} : PC Tryz.prog 187 [.p (.i p)] True (.p (.i (leafOf p))) := ⟨fun _ => leafOf_c p⟩
end Go.Proofs.YtclcfjejpogdlaaGreat.Tr
namespace Go.Proofs.YtclcfjejpogdlaaGreat.Tr
open Go Go.RowKit Go.Aw Go.Aw.Sha Go.Aw.Tree Go.Proofs.YtclcfjejpogdlaaGreat.Sh
set_option linter.unusedVariables false
set_option linter.unusedSimpArgs false
set_option maxRecDepth 8000
theorem kids_c (p : Int) : PCall Tryz.prog 233 [.p (.i p)] (ints (kidsF p) false) := by
  refine pcall_of Tryz.func233 rfl (fun w0 F S0 M0 => ?_)
  rcases plc_cases p with ⟨h0, h1, h0'⟩ | ⟨h0, h1, h0'⟩
  · by_cases h5 : 5 ≤ p
    · have hd5 : decide (5 ≤ p) = true := decide_eq_true h5
      repeat' (first | refine rnA ?_ | refine rnS ?_ | refine rnG ?_ | refine rnU ?_ | ((fail_if_success (refine rnKn ?_)); refine rnP ?_ ?_ <;> (intro hq; try (have hq' := hq; simp only [hqs] at hq'))) | refine rkA ?_ | refine rkS ?_ | refine rkF ?_ | refine rkU ?_ | ((fail_if_success (refine rkKn ?_)); refine rkP ?_ ?_ <;> (intro hq; try (have hq' := hq; simp only [hqs] at hq'))) | refine stp ?_ | refine aws_draws [] mixed (by kernel_rfl) ?_ | refine ifT ?_ | refine ifF ?_ | (refine ifQ ?_ ?_ <;> (try (intro hn))) | (refine ifB ?_ ?_ <;> (intro hq; try (have hq' := hq; simp only [hqs] at hq'))))
      rw [kidsF_out (by omega)]
      exact rt1 rfl rfl (.one .nil) rfl
    · have hd5 : decide (5 ≤ p) = false := decide_eq_false h5
      repeat' (first | refine rnA ?_ | refine rnS ?_ | refine rnG ?_ | refine rnU ?_ | ((fail_if_success (refine rnKn ?_)); refine rnP ?_ ?_ <;> (intro hq; try (have hq' := hq; simp only [hqs] at hq'))) | refine rkA ?_ | refine rkS ?_ | refine rkF ?_ | refine rkU ?_ | ((fail_if_success (refine rkKn ?_)); refine rkP ?_ ?_ <;> (intro hq; try (have hq' := hq; simp only [hqs] at hq'))) | refine stp ?_ | refine aws_draws [] mixed (by kernel_rfl) ?_ | refine ifT ?_ | refine ifF ?_ | (refine ifQ ?_ ?_ <;> (try (intro hn))) | (refine ifB ?_ ?_ <;> (intro hq; try (have hq' := hq; simp only [hqs] at hq'))))
      refine aws_says (says_nil (t := 3) (o := 900) (ty := 3) (es := 1) rfl rfl (by decide)) ?_
      refine aws_loopF [3, 4, 12, 13, 14, 15, 16, 17, 18, 19, 20, 21, 22, 23] [900] (fun (x : Nat × Nat × List Int) => [(3, .o (.osl 900 x.2.1 1 0 x.2.2.length)), (12, .p (.i x.1))]) (fun x => [(900, (x.2.1 + 1, some (.buf 3 1 (x.2.2.map fun n => [PVal.i n]))))])
        (fun x => x.1 ≤ 4 ∧ x.2.2 = (kidsF p).take x.1) (fun x => 4 - x.1) (0, 0, []) ⟨Nat.zero_le _, rfl⟩ (by exact knA) (by exact knA) ?_
      rintro ⟨i, g, out⟩ β γ ⟨hi, hout⟩
      simp only at hi hout
      have hkl : (kidsF p).length = 4 := by rw [kidsF_in (by omega)]; rfl
      have hol : out.length = i := by rw [hout, List.length_take, hkl]; omega
      dsimp only
      repeat' (first | refine rnA ?_ | refine rnS ?_ | refine rnG ?_ | refine rnU ?_ | ((fail_if_success (refine rnKn ?_)); refine rnP ?_ ?_ <;> (intro hq; try (have hq' := hq; simp only [hqs] at hq'))) | refine rkA ?_ | refine rkS ?_ | refine rkF ?_ | refine rkU ?_ | ((fail_if_success (refine rkKn ?_)); refine rkP ?_ ?_ <;> (intro hq; try (have hq' := hq; simp only [hqs] at hq'))) | refine stp ?_ | refine aws_draws [] mixed (by kernel_rfl) ?_ | refine ifT ?_ | refine ifF ?_ | (refine ifQ ?_ ?_ <;> (try (intro hn))) | (refine ifB ?_ ?_ <;> (intro hq; try (have hq' := hq; simp only [hqs] at hq'))))
      · refine ⟨(i + 1, g + 1, out ++ [4 * p + i + 1]), by dsimp only; omega, ⟨by dsimp only; omega, ?_⟩, by exact frA⟩
        dsimp only
        rw [take_snocD (by omega), ← hout, kidsF_get (by omega) (by omega)]
        congr 2; omega
      · refine rt1 rfl rfl (.one (finC_map rfl rfl rfl rfl)) (rs ?_)
        rw [hout, List.take_of_length_le (by omega)]
  · repeat' (first
    | refine rnA ?_
    | refine rnS ?_
    | refine rnG ?_
    | refine rnU ?_
    | ((fail_if_success (refine rnKn ?_)); refine rnP ?_ ?_ <;> (intro hq; try (have hq' := hq; simp only [hqs] at hq')))
    | refine rkA ?_
    | refine rkS ?_
    | refine rkF ?_
    | refine rkU ?_
    | ((fail_if_success (refine rkKn ?_)); refine rkP ?_ ?_ <;> (intro hq; try (have hq' := hq; simp only [hqs] at hq')))
    | refine stp ?_
    | refine aws_draws [] mixed (by kernel_rfl) ?_
    | refine ifT ?_
    | refine ifF ?_
    | (refine ifQ ?_ ?_ <;> (try (intro hn)))
    | (refine ifB ?_ ?_ <;> (intro hq; try (have hq' := hq; simp only [hqs] at hq'))))
    rw [kidsF_out (by omega)]
    exact rt1 rfl rfl (.one .nil) rfl
instance {p : Int} : PC Tryz.prog 233 [.p (.i p)] True (ints (kidsF p) false) := ⟨fun _ => kids_c p⟩
end Go.Proofs.YtclcfjejpogdlaaGreat.Tr
