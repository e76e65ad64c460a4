/- keys: which may be, their points, parts and leaves; SHA-256 in plain Lean, once more: what the reference's words come to. Nothing here speaks of a program.; SHA-256, the reference: turning words; constants; SHA-256, the reference: a word of a block; SHA-256, the reference: behind a block; SHA-256, the reference: what stands behind a text; SHA-256, the reference: the sum; keys: the reference's; wire in plain Lean: a number's bytes, and the number that bytes begin with -/
import Derived.Test.YtclcfjejpogdlaaGreatCS22
import Derived.Test.YtclcfjejpogdlaaGreatCS18
import Derived.Test.YtclcfjejpogdlaaGreatCS05
import Derived.Test.YtclcfjejpogdlaaGreatCS20
import Derived.Test.YtclcfjejpogdlaaGreatCS21
import Derived.Test.YtclcfjejpogdlaaGreatCS17
namespace Go.Proofs.YtclcfjejpogdlaaGreat.Rg
open Go Go.RowKit Go.Aw Go.Aw.Sha Go.Aw.Cart Go.Aw.Ord Go.Sort Go.Proofs.YtclcfjejpogdlaaGreat.Ca Go.Proofs.YtclcfjejpogdlaaGreat.Sh
set_option linter.unusedVariables false
set_option linter.unusedSimpArgs false
set_option maxRecDepth 8000
set_option maxHeartbeats 4000000
attribute [local irreducible] sum
abbrev strV (k : List Nat) : AV := .p (.v (.string (strOf k)))
def byteOk (c : Nat) : Bool := decide ((97 ≤ c ∧ c ≤ 122) ∨ (48 ≤ c ∧ c ≤ 57) ∨ c = 45)
def keyR (k : List Nat) : Bool := decide ((1 ≤ k.length ∧ k.length ≤ 20) ∧ ∀ c ∈ k, byteOk c = true)
def partF (k : List Nat) : Nat := pointF k / 2305843009213693952
def leafF (k : List Nat) : Nat := pointF k / 144115188075855872 % 16
theorem point_lt (k : List Nat) : pointF k < 18446744073709551616 := pv_fit (sum_okB k) (Nat.le_refl 8)
theorem all_get {k : List Nat} : (∀ c ∈ k, byteOk c = true) ↔ ∀ j, j < k.length → byteOk (k.getD j default) = true := by
  constructor
  · intro h j hj
    exact h _ (by rw [getD_at hj]; exact List.getElem_mem _)
  · intro h c hc
    obtain ⟨j, hj, rfl⟩ := getD_mem hc
    exact h j hj
namespace Y1
theorem lopC {C : Ctx} {o : Oper} {σ : St} {e : Eff} {ro : Nat → Bool} (h : LOp C o σ e ro := by
    first | (apply lop_len_sb; (focus rfl); (focus exact inferInstance); (focus rfl); (focus rfl)) | (apply lop_ix_sb; (focus rfl); (focus exact inferInstance); (focus rfl); (focus assumption); (focus rfl); (focus omega); (focus omega); (focus rfl)) | exact P6.lopC | fail) : LOp C o σ e ro := h
section steps
variable {C : Ctx} {ops : Array Oper} {o : Oper} {rest : List Oper} {K : St → Prop} {σ : St} {e : Eff} {ro : Nat → Bool} {W : List (Nat × Nat)} {i : Nat}
theorem rnC {d : Nat} (hk : RunN C ops rest K (e.app (some d) σ)) (hg : Guard ops σ o true := by first | exact gd_n rfl rfl | exact gd_t rfl rfl rfl rfl | exact gd_t rfl rfl rfl (by assumption)) (hd : o.dst = some d := by rfl) (h : LOp C o σ e ro := by exact lopC) : RunN C ops (o :: rest) K σ := rn_any hg hd h hk
end steps
end Y1
open Y1
theorem isByte_w (c : Nat) : PCall Tryz.prog 204 [.p (.k .u8 (c : Int))] (.p (.b (byteOk c))) := by
  refine pcall_of Tryz.func204 rfl (fun w0 F S0 M0 => ?_)
  unfold byteOk
  as_aux_lemma =>
    repeat' (first | refine rnC ?_ | refine rnSB ?_ | refine rnG ?_ | refine rnU ?_ | ((fail_if_success (refine rnKn ?_)); refine rnP ?_ ?_ <;> (intro hq; try (have hq' := hq; simp only [hqs] at hq'))) | refine rkC ?_ | refine rkSB ?_ | refine rkF ?_ | refine rkU ?_ | ((fail_if_success (refine rkKn ?_)); refine rkP ?_ ?_ <;> (intro hq; try (have hq' := hq; simp only [hqs] at hq'))) | refine stp ?_ | refine aws_draws [] mixed (by kernel_rfl) ?_ | refine ifT ?_ | refine ifF ?_ | (refine ifQ ?_ ?_ <;> (try (intro hn))) | (refine ifB ?_ ?_ <;> (intro hq; try (have hq' := hq; simp only [hqs] at hq'))))
    all_goals refine rt1 rfl rfl finS_p (rb ?_)
    all_goals first | exact decide_eq_decide.2 (by omega) | exact decide_eq_true (by omega) | exact decide_eq_false (by omega)
instance isByte_i {c : Nat} : PC Tryz.prog 204 [.p (.k .u8 (c : Int))] True (.p (.b (byteOk c))) := ⟨fun _ => isByte_w c⟩
theorem keyRightL_w (k : List Nat) (hk : okB k) (hl : k.length ≤ 9223372036854775807) : PCall Tryz.prog 109 [strV k] (.p (.b (keyR k))) := by
  refine pcall_of Tryz.func109 rfl (fun w0 F S0 M0 => ?_)
  unfold keyR
  rw [decide_eq_decide.2 (and_congr Iff.rfl all_get)]
  repeat' (first | refine rnC ?_ | refine rnSB ?_ | refine rnG ?_ | refine rnU ?_ | ((fail_if_success (refine rnKn ?_)); refine rnP ?_ ?_ <;> (intro hq; try (have hq' := hq; simp only [hqs] at hq'))) | refine rkC ?_ | refine rkSB ?_ | refine rkF ?_ | refine rkU ?_ | ((fail_if_success (refine rkKn ?_)); refine rkP ?_ ?_ <;> (intro hq; try (have hq' := hq; simp only [hqs] at hq'))) | refine stp ?_ | refine ifT ?_ | refine ifF ?_ | (refine ifQ ?_ ?_ <;> (try (intro hn))) | (refine ifB ?_ ?_ <;> (intro hq; try (have hq' := hq; simp only [hqs] at hq'))))
  refine aws_loopS [2, 3, 6, 7, 8, 9, 10, 11, 12, 13, 14, 15, 16, 17, 18] [] (fun (i : Nat) => [(6, .p (.i i))]) (fun _ => []) (fun i => i ≤ k.length ∧ i ≤ 20 ∧ ∀ j, j < i → byteOk (k.getD j default) = true) (fun i => k.length - i) 0 ⟨Nat.zero_le _, Nat.zero_le _, fun j hj => absurd hj (Nat.not_lt_zero _)⟩ (by exact knA) (by exact knA) ?_
  rintro i β γ ⟨hi, hi2, hx⟩
  by_cases hil : i < k.length
  · have d1 : decide ((i : Int) < (k.length : Int)) = true := decide_eq_true (by omega)
    have ei : (i : Int).toNat = i := Int.toNat_natCast i
    by_cases h20 : 20 ≤ i
    · have d2 : decide (20 ≤ (i : Int)) = true := decide_eq_true (by omega)
      rw [decide_eq_false (fun q => by omega)]
      as_aux_lemma =>
        repeat' (first | refine rnC ?_ | refine rnSB ?_ | refine rnG ?_ | refine rnU ?_ | ((fail_if_success (refine rnKn ?_)); refine rnP ?_ ?_ <;> (intro hq; try (have hq' := hq; simp only [hqs] at hq'))) | refine rkC ?_ | refine rkSB ?_ | refine rkF ?_ | refine rkU ?_ | ((fail_if_success (refine rkKn ?_)); refine rkP ?_ ?_ <;> (intro hq; try (have hq' := hq; simp only [hqs] at hq'))) | refine stp ?_ | refine ifT ?_ | refine ifF ?_ | (refine ifQ ?_ ?_ <;> (try (intro hn))) | (refine ifB ?_ ?_ <;> (intro hq; try (have hq' := hq; simp only [hqs] at hq'))))
        exact rt1 rfl rfl finS_p rfl
    · have d2 : decide (20 ≤ (i : Int)) = false := decide_eq_false (by omega)
      cases hb : byteOk (k.getD (i : Int).toNat default) with
      | true =>
        have d3 : (!byteOk (k.getD (i : Int).toNat default)) = false := by rw [hb]; rfl
        rw [ei] at hb
        repeat' (first | refine rnC ?_ | refine rnSB ?_ | refine rnG ?_ | refine rnU ?_ | ((fail_if_success (refine rnKn ?_)); refine rnP ?_ ?_ <;> (intro hq; try (have hq' := hq; simp only [hqs] at hq'))) | refine rkC ?_ | refine rkSB ?_ | refine rkF ?_ | refine rkU ?_ | ((fail_if_success (refine rkKn ?_)); refine rkP ?_ ?_ <;> (intro hq; try (have hq' := hq; simp only [hqs] at hq'))) | refine stp ?_ | refine ifT ?_ | refine ifF ?_ | (refine ifQ ?_ ?_ <;> (try (intro hn))) | (refine ifB ?_ ?_ <;> (intro hq; try (have hq' := hq; simp only [hqs] at hq'))))
        refine ⟨i + 1, _, by omega, ⟨by omega, by omega, fun j hj => ?_⟩, .refl, by exact frA⟩
        by_cases e : j = i
        · rw [e]; exact hb
        · exact hx j (by omega)
      | false =>
        have d3 : (!byteOk (k.getD (i : Int).toNat default)) = true := by rw [hb]; rfl
        rw [ei] at hb
        rw [decide_eq_false (fun q => by have := q.2 i hil; rw [hb] at this; cases this)]
        as_aux_lemma =>
          repeat' (first | refine rnC ?_ | refine rnSB ?_ | refine rnG ?_ | refine rnU ?_ | ((fail_if_success (refine rnKn ?_)); refine rnP ?_ ?_ <;> (intro hq; try (have hq' := hq; simp only [hqs] at hq'))) | refine rkC ?_ | refine rkSB ?_ | refine rkF ?_ | refine rkU ?_ | ((fail_if_success (refine rkKn ?_)); refine rkP ?_ ?_ <;> (intro hq; try (have hq' := hq; simp only [hqs] at hq'))) | refine stp ?_ | refine ifT ?_ | refine ifF ?_ | (refine ifQ ?_ ?_ <;> (try (intro hn))) | (refine ifB ?_ ?_ <;> (intro hq; try (have hq' := hq; simp only [hqs] at hq'))))
          exact rt1 rfl rfl finS_p rfl
  · have d1 : decide ((i : Int) < (k.length : Int)) = false := decide_eq_false (by omega)
    rw [decide_eq_decide.2 (show ((1 ≤ k.length ∧ k.length ≤ 20) ∧ ∀ j, j < k.length → byteOk (k.getD j default) = true) ↔ 0 < (k.length : Int) from ⟨fun q => by omega, fun q => ⟨by omega, fun j hj => hx j (by omega)⟩⟩)]
    as_aux_lemma =>
      repeat' (first | refine rnC ?_ | refine rnSB ?_ | refine rnG ?_ | refine rnU ?_ | ((fail_if_success (refine rnKn ?_)); refine rnP ?_ ?_ <;> (intro hq; try (have hq' := hq; simp only [hqs] at hq'))) | refine rkC ?_ | refine rkSB ?_ | refine rkF ?_ | refine rkU ?_ | ((fail_if_success (refine rkKn ?_)); refine rkP ?_ ?_ <;> (intro hq; try (have hq' := hq; simp only [hqs] at hq'))) | refine stp ?_ | refine ifT ?_ | refine ifF ?_ | (refine ifQ ?_ ?_ <;> (try (intro hn))) | (refine ifB ?_ ?_ <;> (intro hq; try (have hq' := hq; simp only [hqs] at hq'))))
      exact rt1 rfl rfl finS_p rfl
theorem keyPoint_w (k : List Nat) (hk : okB k) (hl : k.length ≤ 1000000) : PCall Tryz.prog 227 [strV k] (.p (.k .u64 (pointF k : Int))) := by
  refine pcall_of Tryz.func227 rfl (fun w0 F S0 M0 => ?_)
  haveI : ∀ ex, PC Tryz.prog 259 [bytesN k ex] True (.p (.k .u64 (pointF k : Int))) := fun ex => ⟨fun _ => shaPoint_w k ex (by omega)⟩
  as_aux_lemma =>
    repeat' (first | refine rnC ?_ | refine rnSB ?_ | refine rnG ?_ | refine rnU ?_ | ((fail_if_success (refine rnKn ?_)); refine rnP ?_ ?_ <;> (intro hq; try (have hq' := hq; simp only [hqs] at hq'))) | refine rkC ?_ | refine rkSB ?_ | refine rkF ?_ | refine rkU ?_ | ((fail_if_success (refine rkKn ?_)); refine rkP ?_ ?_ <;> (intro hq; try (have hq' := hq; simp only [hqs] at hq'))) | refine stp ?_ | refine ifT ?_ | refine ifF ?_ | (refine ifQ ?_ ?_ <;> (try (intro hn))) | (refine ifB ?_ ?_ <;> (intro hq; try (have hq' := hq; simp only [hqs] at hq'))))
    exact rt1 rfl rfl finS_p rfl
theorem keyAt_w (k : List Nat) (hk : okB k) (hl : k.length ≤ 1000000) : PCall Tryz.prog 177 [strV k] (.tup [.one (.p (.i (partF k : Int))), .one (.p (.i (leafF k : Int)))]) := by
  refine pcall_of Tryz.func177 rfl (fun w0 F S0 M0 => ?_)
  have hp := point_lt k
  unfold partF leafF
  obtain ⟨p, hP⟩ : ∃ p, p = pointF k := ⟨_, rfl⟩
  haveI : PC Tryz.prog 227 [strV k] True (.p (.k .u64 (p : Int))) := ⟨fun _ => by rw [hP]; exact keyPoint_w k hk hl⟩
  rw [← hP] at hp ⊢
  have e1 : IntKind.i64.wrap ((p / 2 ^ (61 : Int).toNat : Nat) : Int) = ((p / 2305843009213693952 : Nat) : Int) := by
    rw [show p / 2 ^ (61 : Int).toNat = p / 2305843009213693952 from rfl]
    exact IntWalk.i64_in _ (by omega)
  have e2 : IntKind.i64.wrap ((p / 2 ^ (57 : Int).toNat % md .u64 &&& 15 % md .u64 : Nat) : Int) = ((p / 144115188075855872 % 16 : Nat) : Int) := by
    have h1 : p / 2 ^ (57 : Int).toNat % md .u64 = p / 144115188075855872 := Nat.mod_eq_of_lt (show p / 144115188075855872 < 18446744073709551616 by omega)
    have h2 : 15 % md .u64 = 2 ^ 4 - 1 := rfl
    rw [h1, h2, Nat.and_two_pow_sub_one_eq_mod]
    exact IntWalk.i64_in _ (by omega)
  rw [← e1, ← e2]
  as_aux_lemma =>
    repeat' (first | refine rnC ?_ | refine rnSB ?_ | refine rnG ?_ | refine rnU ?_ | ((fail_if_success (refine rnKn ?_)); refine rnP ?_ ?_ <;> (intro hq; try (have hq' := hq; simp only [hqs] at hq'))) | refine rkC ?_ | refine rkSB ?_ | refine rkF ?_ | refine rkU ?_ | ((fail_if_success (refine rkKn ?_)); refine rkP ?_ ?_ <;> (intro hq; try (have hq' := hq; simp only [hqs] at hq'))) | refine stp ?_ | refine ifT ?_ | refine ifF ?_ | (refine ifQ ?_ ?_ <;> (try (intro hn))) | (refine ifB ?_ ?_ <;> (intro hq; try (have hq' := hq; simp only [hqs] at hq'))))
    exact rt2 rfl rfl finS_p rfl finS_p rfl
instance keyAt_i {k : List Nat} : PC Tryz.prog 177 [strV k] (okB k ∧ k.length ≤ 1000000) (.tup [.one (.p (.i (partF k : Int))), .one (.p (.i (leafF k : Int)))]) := ⟨fun h => keyAt_w k h.1 h.2⟩
end Go.Proofs.YtclcfjejpogdlaaGreat.Rg
namespace Go.Aw.Sha
open Go.Aw
set_option linter.unusedVariables false
set_option linter.unusedSimpArgs false
end Go.Aw.Sha
namespace Go.Proofs.YtclcfjejpogdlaaGreat.Sh
open Go Go.RowKit Go.Aw Go.Aw.Sha
set_option linter.unusedVariables false
set_option linter.unusedSimpArgs false
set_option maxRecDepth 8000
set_option maxHeartbeats 4000000
end Go.Proofs.YtclcfjejpogdlaaGreat.Sh
namespace Go.Proofs.YtclcfjejpogdlaaGreat.Sh
open Go Go.RowKit Go.Aw Go.Aw.Sha
set_option linter.unusedVariables false
set_option linter.unusedSimpArgs false
set_option maxRecDepth 8000
set_option maxHeartbeats 4000000
def wordR (b w : List Nat) (t : Nat) : Nat := if t < 16 then word4 b t else wordN w t
attribute [local irreducible] rotr
end Go.Proofs.YtclcfjejpogdlaaGreat.Sh
namespace Go.Proofs.YtclcfjejpogdlaaGreat.Sh
open Go Go.RowKit Go.Aw Go.Aw.Sha
set_option linter.unusedVariables false
set_option linter.unusedSimpArgs false
set_option maxRecDepth 8000
set_option maxHeartbeats 4000000
attribute [local irreducible] consts spreadTo steps Aw.Sha.step rotr wordR
end Go.Proofs.YtclcfjejpogdlaaGreat.Sh
namespace Go.Proofs.YtclcfjejpogdlaaGreat.Sh
open Go Go.RowKit Go.Aw Go.Aw.Sha
set_option linter.unusedVariables false
set_option linter.unusedSimpArgs false
set_option maxRecDepth 8000
set_option maxHeartbeats 4000000
end Go.Proofs.YtclcfjejpogdlaaGreat.Sh
namespace Go.Proofs.YtclcfjejpogdlaaGreat.Sh
open Go Go.RowKit Go.Aw Go.Aw.Sha
set_option linter.unusedVariables false
set_option linter.unusedSimpArgs false
set_option maxRecDepth 8000
set_option maxHeartbeats 4000000
attribute [local irreducible] pad blocks block sum
theorem okB_chunk {b : List Nat} (h : okB b) (n m : Nat) : okB ((b.drop n).take m) := fun x hx => h x (List.mem_of_mem_drop (List.mem_of_mem_take hx))
end Go.Proofs.YtclcfjejpogdlaaGreat.Sh
namespace Go.Proofs.YtclcfjejpogdlaaGreat.Rg
open Go Go.RowKit Go.Aw Go.Aw.Sha Go.Aw.Cart Go.Aw.Ord Go.Sort Go.Proofs.YtclcfjejpogdlaaGreat.Ca Go.Proofs.YtclcfjejpogdlaaGreat.Sh
set_option linter.unusedVariables false
set_option linter.unusedSimpArgs false
set_option maxRecDepth 8000
set_option maxHeartbeats 4000000
attribute [local irreducible] sum
open Y1
/-! the reference's -/
end Go.Proofs.YtclcfjejpogdlaaGreat.Rg
namespace Go.Proofs.YtclcfjejpogdlaaGreat.Wi
open Go Go.RowKit Go.Aw
set_option linter.unusedVariables false
set_option linter.unusedSimpArgs false
/-- a number's bytes, the greatest ahead; at most so many -/
def beF : Nat → Nat → List Nat
  | 0, _ => []
  | f + 1, x => if x = 0 then [] else beF f (x / 256) ++ [x % 256]
def be (x : Nat) : List Nat := beF 8 x
def numB (x : Nat) : List Nat := (be x).length :: be x
theorem beF_zero : ∀ f, beF f 0 = []
  | 0 => rfl
  | _ + 1 => rfl
theorem beF_le : ∀ f x, (beF f x).length ≤ f
  | 0, _ => Nat.le_refl _
  | f + 1, x => by
    rw [beF]
    split
    · exact Nat.zero_le _
    · have := beF_le f (x / 256)
      rw [List.length_append, List.length_singleton]; omega
theorem beF_byte : ∀ f x, ∀ b ∈ beF f x, b < 256
  | 0, _ => fun b h => by cases h
  | f + 1, x => fun b h => by
    rw [beF] at h
    split at h
    · cases h
    · rcases List.mem_append.1 h with k | k
      · exact beF_byte f _ b k
      · rw [List.mem_singleton.1 k]; exact Nat.mod_lt _ (by decide)
theorem beF_step {f x : Nat} (h : x ≠ 0) : (beF (f + 1) x).length = (beF f (x / 256)).length + 1 := by
  rw [beF, if_neg h, List.length_append, List.length_singleton]
theorem beF_get : ∀ (f x j : Nat), j < (beF f x).length → (beF f x).getD j default = x / 256 ^ ((beF f x).length - 1 - j) % 256
  | 0, x, j, h => by exact absurd h (Nat.not_lt_zero _)
  | f + 1, x, j, h => by
    by_cases hx : x = 0
    · subst hx; rw [beF_zero] at h; exact absurd h (Nat.not_lt_zero _)
    · have hl := beF_step (f := f) hx
      have ih := beF_get f (x / 256) j
      rw [hl]
      rw [beF, if_neg hx] at h ⊢
      rw [List.length_append, List.length_singleton] at h
      by_cases hj : j < (beF f (x / 256)).length
      · rw [List.getD_eq_getElem?_getD, List.getElem?_append_left hj, ← List.getD_eq_getElem?_getD, ih hj, Nat.div_div_eq_div_mul]
        congr 2
        rw [show (beF f (x / 256)).length + 1 - 1 - j = ((beF f (x / 256)).length - 1 - j) + 1 by omega, Nat.pow_succ, Nat.mul_comm]
      · obtain rfl : j = (beF f (x / 256)).length := by omega
        rw [List.getD_eq_getElem?_getD, List.getElem?_append_right (Nat.le_refl _), Nat.sub_self, show (beF f (x / 256)).length + 1 - 1 - (beF f (x / 256)).length = 0 by omega]
        simp
theorem be_take {x j : Nat} (h : j < (be x).length) : (be x).take (j + 1) = (be x).take j ++ [x / 256 ^ ((be x).length - 1 - j) % 256] := by
  show (beF 8 x).take (j + 1) = (beF 8 x).take j ++ [x / 256 ^ ((beF 8 x).length - 1 - j) % 256]
  have h' : j < (beF 8 x).length := h
  rw [← beF_get 8 x j h', List.take_succ_eq_append_getElem h', List.getD_eq_getElem?_getD, List.getElem?_eq_getElem h']; rfl
theorem pow8 (i : Nat) : 2 ^ (8 * i) = 256 ^ i := by rw [Nat.pow_mul]
/-! what bytes say -/
/-- the bytes that are left, and the fault -/
abbrev RS := List Nat × Int
def takeS (n : Nat) (r : RS) : List Nat × RS := if r.2 ≠ 0 then ([], r) else if r.1.length < n then ([], (r.1, 8)) else (r.1.take n, (r.1.drop n, 0))
def mustS (is : Bool) (r : RS) : RS := if r.2 = 0 ∧ is = false then (r.1, 3) else r
def valB (l : List Nat) : Nat := l.foldl (fun n c => n * 256 + c) 0
/-- the number that stands here -/
def numR1 (r : RS) : RS := mustS (decide ((((takeS 1 r).1.getD (0 : Int).toNat default : Nat) : Int) ≤ 8)) (takeS 1 r).2
def numL (r : RS) : List Nat × RS := takeS ((takeS 1 r).1.getD (0 : Int).toNat default) (numR1 r)
def numR2 (r : RS) : RS := mustS (if (numL r).1.length = 0 then true else decide (0 < (((numL r).1.getD (0 : Int).toNat default : Nat) : Int))) (numL r).2
def numS (r : RS) : Nat × RS := if (takeS 1 r).1.length = 0 then (0, (takeS 1 r).2) else (if (numR2 r).2 = 0 then valB (numL r).1 else 0, numR2 r)
def smallS (most : Int) (r : RS) : Int × RS :=
  (if (mustS (decide (0 ≤ most) && decide (((numS r).1 : Int) ≤ most)) (numS r).2).2 = 0 then ((numS r).1 : Int) else 0, mustS (decide (0 ≤ most) && decide (((numS r).1 : Int) ≤ most)) (numS r).2)
/-- one byte more, as the machine does it -/
theorem byte_in {a c M : Nat} (ha : a * 256 + c < M) (hc : c < 256) : ((a * 256) % M % M ||| c % M % M) = a * 256 + c := by
  have h1 : c < M := by omega
  have h2 : a * 256 < M := Nat.lt_of_le_of_lt (Nat.le_add_right _ c) ha
  rw [Nat.mod_eq_of_lt h1, Nat.mod_eq_of_lt h1, Nat.mod_eq_of_lt h2, Nat.mod_eq_of_lt h2]
  have := Nat.shiftLeft_add_eq_or_of_lt (i := 8) (show c < 2 ^ 8 from hc) a
  rw [Nat.shiftLeft_eq] at this
  exact this.symm
end Go.Proofs.YtclcfjejpogdlaaGreat.Wi
