/- SHA-256, the reference: what stands behind a text; SHA-256, the reference: the sum; keys: the reference's -/
import Derived.Test.YtlaeldgebecppaaGreatPT26
import Derived.Test.YtlaeldgebecppaaGreatPT23
import Derived.Test.YtlaeldgebecppaaGreatPT24
import Derived.Test.YtlaeldgebecppaaGreatPT25
namespace Go.Proofs.YtlaeldgebecppaaGreat.Sh
open Go Go.RowKit Go.Aw Go.Aw.Sha
set_option linter.unusedVariables false
set_option linter.unusedSimpArgs false
set_option maxRecDepth 8000
set_option maxHeartbeats 4000000
theorem rpad_c (b : List Nat) (ex : Bool) (h : b.length ≤ 500000000) : PCall Tryz.prog 183 [bytesN b ex] (bytesN (pad b) false) := by
  refine pcall_of Tryz.func183 rfl (fun w0 F S0 M0 => ?_)
  refine aws_seq (aws_region ?_)
  refine rnB (rn_nil ?_)
  refine aws_seq (aws_region ?_)
  refine rn_any (gd_n rfl rfl) rfl (lop_bz rfl inferInstance inferInstance inferInstance rfl rfl rfl) ?_
  repeat' (first | refine rnB ?_ | refine rnSB ?_ | refine rnG ?_ | refine rnU ?_ | ((fail_if_success (refine rnKn ?_)); refine rnP ?_ ?_ <;> (intro hq; try (have hq' := hq; simp only [hqs] at hq'))) | refine rkB ?_ | refine rkSB ?_ | refine rkF ?_ | refine rkU ?_ | ((fail_if_success (refine rkKn ?_)); refine rkP ?_ ?_ <;> (intro hq; try (have hq' := hq; simp only [hqs] at hq'))) | refine stp ?_ | refine ifT ?_ | refine ifF ?_ | (refine ifQ ?_ ?_ <;> (try (intro hn))) | (refine ifB ?_ ?_ <;> (intro hq; try (have hq' := hq; simp only [hqs] at hq'))))
  refine aws_loopS (3 :: [3, 11, 12, 13, 14, 15, 16, 17]) [6] (fun (x : Nat × Nat × List Nat) => [(3, .o (.osl 6 x.2.1 1 0 x.2.2.length))]) (fun x => [(6, (x.2.1 + 1, some (.buf 5 1 (x.2.2.map br))))])
    (fun x => x.1 ≤ zeros b.length ∧ x.2.2 = b ++ [128] ++ List.replicate x.1 0) (fun x => zeros b.length - x.1) (0, 2, b ++ [128]) ⟨Nat.zero_le _, by simp⟩ (by exact knA) (by exact knA) ?_
  rintro ⟨j, g, bs⟩ β γ ⟨hj, hb⟩
  simp only at hj hb
  have hz : zeros b.length ≤ 63 := by unfold zeros; omega
  have hbl : bs.length = b.length + 1 + j := by rw [hb]; simp; omega
  dsimp only
  by_cases hjz : j < zeros b.length
  · have hd : decide ((bs.length : Int) % 64 ≠ 56) = true := decide_eq_true (by rw [hbl]; unfold zeros at hjz; omega)
    repeat' (first | refine rnB ?_ | refine rnSB ?_ | refine rnG ?_ | refine rnU ?_ | ((fail_if_success (refine rnKn ?_)); refine rnP ?_ ?_ <;> (intro hq; try (have hq' := hq; simp only [hqs] at hq'))) | refine rkB ?_ | refine rkSB ?_ | refine rkF ?_ | refine rkU ?_ | ((fail_if_success (refine rkKn ?_)); refine rkP ?_ ?_ <;> (intro hq; try (have hq' := hq; simp only [hqs] at hq'))) | refine stp ?_ | refine ifT ?_ | refine ifF ?_ | (refine ifQ ?_ ?_ <;> (try (intro hn))) | (refine ifB ?_ ?_ <;> (intro hq; try (have hq' := hq; simp only [hqs] at hq'))))
    apply ex3 (j + 1) (g + 1)
    apply Exists.intro
    refine ⟨?_, ⟨?_, ?_⟩, .refl, ?_⟩
    rotate_left 3
    (focus exact frA)
    · dsimp only; omega
    · dsimp only; omega
    · dsimp only
      rw [hb, List.replicate_succ']; simp
  · have hjz' : j = zeros b.length := by omega
    have hd : decide ((bs.length : Int) % 64 ≠ 56) = false := decide_eq_false (by rw [hbl, hjz']; unfold zeros; omega)
    repeat' (first | refine rnBW ?_ | refine rnSB ?_ | refine rnG ?_ | refine rnU ?_ | ((fail_if_success (refine rnKn ?_)); refine rnP ?_ ?_ <;> (intro hq; try (have hq' := hq; simp only [hqs] at hq'))) | refine rkBW ?_ | refine rkSB ?_ | refine rkF ?_ | refine rkU ?_ | ((fail_if_success (refine rkKn ?_)); refine rkP ?_ ?_ <;> (intro hq; try (have hq' := hq; simp only [hqs] at hq'))) | refine stp ?_ | refine ifT ?_ | refine ifF ?_ | (refine ifQ ?_ ?_ <;> (try (intro hn))) | (refine ifB ?_ ?_ <;> (intro hq; try (have hq' := hq; simp only [hqs] at hq'))))
    refine aws_loopS (3 :: 4 :: [3, 4, 5, 22, 23, 24, 25, 26, 27, 28, 29, 30, 31, 32, 33]) [6] (fun (x : Nat × Nat × Nat × List Nat) => [(5, .p (.i x.1)), (4, .p (.k .u64 (x.2.2.1 : Int))), (3, .o (.osl 6 x.2.1 1 0 x.2.2.2.length))]) (fun x => [(6, (x.2.1 + 1, some (.buf 5 1 (x.2.2.2.map br))))])
      (fun x => x.1 ≤ 8 ∧ x.2.2.1 = (b.length * 8 * 256 ^ x.1) % md .u64 ∧ x.2.2.2 = bs ++ (lenBytes b.length).take x.1) (fun x => 8 - x.1) (0, g, (8 * (b.length % md .u64)) % md .u64, bs) ⟨Nat.zero_le _, by
        dsimp only; rw [u64_ok (show b.length < 18446744073709551616 by omega), Nat.pow_zero, Nat.mul_one, Nat.mul_comm], by simp⟩ (by exact knA) (by exact knA) ?_
    rintro ⟨i, g', N, cs⟩ β' γ' ⟨hi, hN, hc⟩
    simp only at hi hN hc
    have hll : (lenBytes b.length).length = 8 := by simp [lenBytes]
    have hcl : cs.length = bs.length + i := by rw [hc, List.length_append, List.length_take, hll]; omega
    dsimp only
    by_cases hi8 : i < 8
    · have hdi : decide ((i : Int) < 8) = true := decide_eq_true (by omega)
      repeat' (first | refine rnBW ?_ | refine rnSB ?_ | refine rnG ?_ | refine rnU ?_ | ((fail_if_success (refine rnKn ?_)); refine rnP ?_ ?_ <;> (intro hq; try (have hq' := hq; simp only [hqs] at hq'))) | refine rkBW ?_ | refine rkSB ?_ | refine rkF ?_ | refine rkU ?_ | ((fail_if_success (refine rkKn ?_)); refine rkP ?_ ?_ <;> (intro hq; try (have hq' := hq; simp only [hqs] at hq'))) | refine stp ?_ | refine ifT ?_ | refine ifF ?_ | (refine ifQ ?_ ?_ <;> (try (intro hn))) | (refine ifB ?_ ?_ <;> (intro hq; try (have hq' := hq; simp only [hqs] at hq'))))
      refine ⟨(i + 1, g' + 1, (N * 256) % md .u64, cs ++ [N / 72057594037927936 % md .u64 % md .u8]), _, by dsimp only; omega, ⟨by dsimp only; omega, ?_, ?_⟩, .refl, by exact frA⟩
      · dsimp only
        rw [hN, Nat.pow_succ, ← Nat.mul_assoc, Nat.mod_mul_mod]
      · dsimp only
        have h56 : N / 72057594037927936 < 18446744073709551616 := Nat.lt_of_le_of_lt (Nat.div_le_self _ _) (by rw [hN]; exact Nat.mod_lt _ (by decide))
        have e : N / 72057594037927936 % md .u64 % md .u8 = (lenBytes b.length)[i]'(by rw [hll]; exact hi8) := by
          rw [u64_ok h56, hN]
          simp only [lenBytes, List.getElem_map, List.getElem_range]
          exact lenB (by omega) hi8
        rw [e, hc, List.append_assoc, List.take_succ_eq_append_getElem (by rw [hll]; omega)]
    · have hdi : decide ((i : Int) < 8) = false := decide_eq_false (by omega)
      repeat' (first | refine rnBW ?_ | refine rnSB ?_ | refine rnG ?_ | refine rnU ?_ | ((fail_if_success (refine rnKn ?_)); refine rnP ?_ ?_ <;> (intro hq; try (have hq' := hq; simp only [hqs] at hq'))) | refine rkBW ?_ | refine rkSB ?_ | refine rkF ?_ | refine rkU ?_ | ((fail_if_success (refine rkKn ?_)); refine rkP ?_ ?_ <;> (intro hq; try (have hq' := hq; simp only [hqs] at hq'))) | refine stp ?_ | refine ifT ?_ | refine ifF ?_ | (refine ifQ ?_ ?_ <;> (try (intro hn))) | (refine ifB ?_ ?_ <;> (intro hq; try (have hq' := hq; simp only [hqs] at hq'))))
      refine rt1 rfl rfl (.one (finC_map rfl rfl rfl rfl)) (rs ?_)
      rw [hc, hb, hjz', show i = 8 by omega, List.take_of_length_le (by rw [hll]; omega)]
      rfl
instance {b : List Nat} {ex : Bool} : PC Tryz.prog 183 [bytesN b ex] (b.length ≤ 500000000) (bytesN (pad b) false) := ⟨rpad_c b ex⟩
end Go.Proofs.YtlaeldgebecppaaGreat.Sh
namespace Go.Proofs.YtlaeldgebecppaaGreat.Sh
open Go Go.RowKit Go.Aw Go.Aw.Sha
set_option linter.unusedVariables false
set_option linter.unusedSimpArgs false
set_option maxRecDepth 8000
set_option maxHeartbeats 4000000
attribute [local irreducible] pad blocks block sum
theorem okB_pad {b : List Nat} (h : okB b) : okB (pad b) := by
  unfold pad
  refine okB.append (okB.append (okB.append h (okB.cons (by decide) .nil)) ?_) ?_
  · intro n hn
    rw [List.eq_of_mem_replicate hn]; decide
  · intro n hn
    obtain ⟨i, _, rfl⟩ := List.mem_map.1 hn
    exact Nat.mod_lt _ (by decide)
theorem okB_chunk {b : List Nat} (h : okB b) (n m : Nat) : okB ((b.drop n).take m) := fun x hx => h x (List.mem_of_mem_drop (List.mem_of_mem_take hx))
theorem rsum_c (b : List Nat) (ex : Bool) (h : b.length ≤ 500000000) (hb : okB b) : PCall Tryz.prog 131 [bytesN b ex] (.a ((sum b).map bc)) := by
  refine pcall_of Tryz.func131 rfl (fun w0 F S0 M0 => ?_)
  have hp : (pad b).length ≤ 1000000000 := by rw [pad_len]; unfold zeros; omega
  have hp64 := pad_64 b
  have hpo := okB_pad hb
  have hsum : sum b = digest (blocks (pad b) ((pad b).length / 64)) := sum_def _
  repeat' (first | refine rnBW ?_ | refine rnSB ?_ | refine rnG ?_ | refine rnU ?_ | ((fail_if_success (refine rnKn ?_)); refine rnP ?_ ?_ <;> (intro hq; try (have hq' := hq; simp only [hqs] at hq'))) | refine rkBW ?_ | refine rkSB ?_ | refine rkF ?_ | refine rkU ?_ | ((fail_if_success (refine rkKn ?_)); refine rkP ?_ ?_ <;> (intro hq; try (have hq' := hq; simp only [hqs] at hq'))) | refine stp ?_ | refine ifT ?_ | refine ifF ?_ | (refine ifQ ?_ ?_ <;> (try (intro hn))) | (refine ifB ?_ ?_ <;> (intro hq; try (have hq' := hq; simp only [hqs] at hq'))))
  generalize hP : pad b = P at hp hp64 hsum hpo ⊢
  refine aws_loopS [5, 11, 12, 13, 14, 15, 16, 17, 18, 19, 20, 21, 22, 23] [3] (fun (x : Nat × Int × V8) => [(5, .p (.i x.2.1))]) (fun x => [(3, (1, some (.box 99 (u8c x.2.2))))])
    (fun x => x.1 ≤ P.length / 64 ∧ x.2.1 = 64 * (x.1 : Int) ∧ x.2.2 = blocks P x.1) (fun x => P.length / 64 - x.1) (0, 0, firstV) ⟨Nat.zero_le _, rfl, blocks_zero P⟩ (by exact knA) (by exact knA) ?_
  rintro ⟨j, t, v⟩ β γ ⟨hj, ht, hv⟩
  simp only at hj ht hv
  dsimp only
  by_cases hjl : j < P.length / 64
  · have hd : decide (t < (P.length : Int)) = true := decide_eq_true (by omega)
    have hcl : ((P.drop t.toNat).take ((t + 64).toNat - t.toNat)).length = 64 := by simp only [List.length_take, List.length_drop]; omega
    have hco : okB ((P.drop t.toNat).take ((t + 64).toNat - t.toNat)) := okB_chunk hpo _ _
    have hvo : v.ok := by rw [hv]; exact blocks_ok P j
    obtain ⟨B, hB⟩ : ∃ B, B = block v ((P.drop t.toNat).take ((t + 64).toNat - t.toNat)) := ⟨_, rfl⟩
    haveI : PC Tryz.prog 184 [.a (u8c v), bytesN ((P.drop t.toNat).take ((t + 64).toNat - t.toNat)) false] True (.a (u8c B)) := ⟨fun _ => by rw [hB]; exact rnext_c v _ false hcl hco hvo⟩
    repeat' (first | refine rnB ?_ | refine rnSB ?_ | refine rnG ?_ | refine rnU ?_ | ((fail_if_success (refine rnKn ?_)); refine rnP ?_ ?_ <;> (intro hq; try (have hq' := hq; simp only [hqs] at hq'))) | refine rkB ?_ | refine rkSB ?_ | refine rkF ?_ | refine rkU ?_ | ((fail_if_success (refine rkKn ?_)); refine rkP ?_ ?_ <;> (intro hq; try (have hq' := hq; simp only [hqs] at hq'))) | refine stp ?_ | refine ifT ?_ | refine ifF ?_ | (refine ifQ ?_ ?_ <;> (try (intro hn))) | (refine ifB ?_ ?_ <;> (intro hq; try (have hq' := hq; simp only [hqs] at hq'))))
    refine aws_draws [(7, 3)] mixed (by kernel_rfl) ?_
    repeat' (first | refine rk_nil ?_ | refine rkB ?_ | refine rkSB ?_ | refine rkF ?_ | refine rkU ?_ | ((fail_if_success (refine rkKn ?_)); refine rkP ?_ ?_ <;> (intro hq; try (have hq' := hq; simp only [hqs] at hq'))))
    repeat' (first | refine rnB ?_ | refine rnSB ?_ | refine rnG ?_ | refine rnU ?_ | ((fail_if_success (refine rnKn ?_)); refine rnP ?_ ?_ <;> (intro hq; try (have hq' := hq; simp only [hqs] at hq'))) | refine rkB ?_ | refine rkSB ?_ | refine rkF ?_ | refine rkU ?_ | ((fail_if_success (refine rkKn ?_)); refine rkP ?_ ?_ <;> (intro hq; try (have hq' := hq; simp only [hqs] at hq'))) | refine stp ?_ | refine ifT ?_ | refine ifF ?_ | (refine ifQ ?_ ?_ <;> (try (intro hn))) | (refine ifB ?_ ?_ <;> (intro hq; try (have hq' := hq; simp only [hqs] at hq'))))
    refine ⟨(j + 1, t + 64, B), _, by dsimp only; omega, ⟨by dsimp only; omega, by dsimp only; omega, ?_⟩, .refl, by exact frA⟩
    dsimp only
    rw [blocks_succ, ← hv, hB, chunkAt, show t.toNat = 64 * j by omega, show (t + 64).toNat - 64 * j = 64 by omega]
  · have hd : decide (t < (P.length : Int)) = false := decide_eq_false (by omega)
    repeat' (first | refine rnB ?_ | refine rnSB ?_ | refine rnG ?_ | refine rnU ?_ | ((fail_if_success (refine rnKn ?_)); refine rnP ?_ ?_ <;> (intro hq; try (have hq' := hq; simp only [hqs] at hq'))) | refine rkB ?_ | refine rkSB ?_ | refine rkF ?_ | refine rkU ?_ | ((fail_if_success (refine rkKn ?_)); refine rkP ?_ ?_ <;> (intro hq; try (have hq' := hq; simp only [hqs] at hq'))) | refine stp ?_ | refine ifT ?_ | refine ifF ?_ | (refine ifQ ?_ ?_ <;> (try (intro hn))) | (refine ifB ?_ ?_ <;> (intro hq; try (have hq' := hq; simp only [hqs] at hq'))))
    have hj' : j = P.length / 64 := by omega
    obtain ⟨va, vb, vc, vd, ve, vf, vg, vh⟩ := v
    generalize hV : (V8.mk va vb vc vd ve vf vg vh) = V at hv
    have hvl : V.list = [va, vb, vc, vd, ve, vf, vg, vh] := by rw [← hV]; rfl
    refine aws_loopS [7, 24, 25, 26, 27, 28, 29, 30, 31, 32, 33, 34, 35, 36, 37, 38, 39] [3, 6] (fun (x : Nat × List Nat) => [(7, .p (.i x.1))]) (fun x => [(3, (1, some (.box 99 (V.list.map uc)))), (6, (1, some (.box 43 (x.2.map bc))))])
      (fun x => x.1 ≤ 32 ∧ x.2 = digTo V x.1) (fun x => 32 - x.1) (0, digTo V 0) ⟨Nat.zero_le _, rfl⟩ (by exact knA) (by subst hV; exact knA) ?_
    rintro ⟨i, ds⟩ β' γ' ⟨hi, hds⟩
    simp only at hi hds
    have hdl : ds.length = 32 := by rw [hds]; exact digTo_len V _
    have hVl : V.list.length = 8 := rfl
    dsimp only
    by_cases hi32 : i < 32
    · have hdi : decide ((i : Int) < 32) = true := decide_eq_true (by omega)
      repeat' (first | refine rnB ?_ | refine rnSB ?_ | refine rnG ?_ | refine rnU ?_ | ((fail_if_success (refine rnKn ?_)); refine rnP ?_ ?_ <;> (intro hq; try (have hq' := hq; simp only [hqs] at hq'))) | refine rkB ?_ | refine rkSB ?_ | refine rkF ?_ | refine rkU ?_ | ((fail_if_success (refine rkKn ?_)); refine rkP ?_ ?_ <;> (intro hq; try (have hq' := hq; simp only [hqs] at hq'))) | refine stp ?_ | refine ifT ?_ | refine ifF ?_ | (refine ifQ ?_ ?_ <;> (try (intro hn))) | (refine ifB ?_ ?_ <;> (intro hq; try (have hq' := hq; simp only [hqs] at hq'))))
      repeat' (first | refine rnBW ?_ | refine rnSB ?_ | refine rnG ?_ | refine rnU ?_ | ((fail_if_success (refine rnKn ?_)); refine rnP ?_ ?_ <;> (intro hq; try (have hq' := hq; simp only [hqs] at hq'))) | refine rkBW ?_ | refine rkSB ?_ | refine rkF ?_ | refine rkU ?_ | ((fail_if_success (refine rkKn ?_)); refine rkP ?_ ?_ <;> (intro hq; try (have hq' := hq; simp only [hqs] at hq'))) | refine stp ?_ | refine ifT ?_ | refine ifF ?_ | (refine ifQ ?_ ?_ <;> (try (intro hn))) | (refine ifB ?_ ?_ <;> (intro hq; try (have hq' := hq; simp only [hqs] at hq'))))
      apply ex2 (i + 1)
      apply Exists.intro
      refine ⟨?_, ⟨?_, ?_⟩, .refl, ?_⟩
      rotate_left 3
      (focus exact frA)
      · dsimp only; omega
      · dsimp only; omega
      · dsimp only
        have e1 : ((i : Int) / 4).toNat = i / 4 := by omega
        have e2 : ((24 : Int) - 8 * ((i : Int) % 4)).toNat = 24 - 8 * (i % 4) := by omega
        rw [e1, e2, Int.toNat_natCast, digTo, ← hds]
        rfl
    · have hdi : decide ((i : Int) < 32) = false := decide_eq_false (by omega)
      repeat' (first | refine rnB ?_ | refine rnSB ?_ | refine rnG ?_ | refine rnU ?_ | ((fail_if_success (refine rnKn ?_)); refine rnP ?_ ?_ <;> (intro hq; try (have hq' := hq; simp only [hqs] at hq'))) | refine rkB ?_ | refine rkSB ?_ | refine rkF ?_ | refine rkU ?_ | ((fail_if_success (refine rkKn ?_)); refine rkP ?_ ?_ <;> (intro hq; try (have hq' := hq; simp only [hqs] at hq'))) | refine stp ?_ | refine ifT ?_ | refine ifF ?_ | (refine ifQ ?_ ?_ <;> (try (intro hn))) | (refine ifB ?_ ?_ <;> (intro hq; try (have hq' := hq; simp only [hqs] at hq'))))
      refine rc1 rfl rfl rfl rfl rfl (by simpa using hdl) finL_p ?_
      rw [hds, show i = 32 by omega, digTo_all, hsum, ← hj', hv]
instance {b : List Nat} {ex : Bool} : PC Tryz.prog 131 [bytesN b ex] (b.length ≤ 500000000 ∧ okB b) (.a ((sum b).map bc)) := ⟨fun k => rsum_c b ex k.1 k.2⟩
end Go.Proofs.YtlaeldgebecppaaGreat.Sh
namespace Go.Proofs.YtlaeldgebecppaaGreat.Rg
open Go Go.RowKit Go.Aw Go.Aw.Sha Go.Aw.Cart Go.Aw.Ord Go.Sort Go.Proofs.YtlaeldgebecppaaGreat.Ca Go.Proofs.YtlaeldgebecppaaGreat.Sh
set_option linter.unusedVariables false
set_option linter.unusedSimpArgs false
set_option maxRecDepth 8000
set_option maxHeartbeats 4000000
attribute [local irreducible] sum
open Y1
/-! the reference's -/
theorem refKeyRight_w (k : List Nat) (hk : okB k) (hl : k.length ≤ 1000000) : PCall Tryz.prog 126 [strV k] (.p (.b (keyR k))) := by
  refine pcall_of Tryz.func126 rfl (fun w0 F S0 M0 => ?_)
  unfold keyR
  rw [decide_eq_decide.2 (and_congr Iff.rfl all_get)]
  by_cases h1 : k.length < 1
  · have d1 : decide ((k.length : Int) < 1) = true := decide_eq_true (by omega)
    rw [decide_eq_false (fun q => by omega)]
    as_aux_lemma =>
      repeat' (first | refine rnC ?_ | refine rnSB ?_ | refine rnG ?_ | refine rnU ?_ | ((fail_if_success (refine rnKn ?_)); refine rnP ?_ ?_ <;> (intro hq; try (have hq' := hq; simp only [hqs] at hq'))) | refine rkC ?_ | refine rkSB ?_ | refine rkF ?_ | refine rkU ?_ | ((fail_if_success (refine rkKn ?_)); refine rkP ?_ ?_ <;> (intro hq; try (have hq' := hq; simp only [hqs] at hq'))) | refine stp ?_ | refine ifT ?_ | refine ifF ?_ | (refine ifQ ?_ ?_ <;> (try (intro hn))) | (refine ifB ?_ ?_ <;> (intro hq; try (have hq' := hq; simp only [hqs] at hq'))))
      exact rt1 rfl rfl finS_p rfl
  have d1 : decide ((k.length : Int) < 1) = false := decide_eq_false (by omega)
  by_cases h2 : 20 < k.length
  · have d2 : decide (20 < (k.length : Int)) = true := decide_eq_true (by omega)
    rw [decide_eq_false (fun q => by omega)]
    as_aux_lemma =>
      repeat' (first | refine rnC ?_ | refine rnSB ?_ | refine rnG ?_ | refine rnU ?_ | ((fail_if_success (refine rnKn ?_)); refine rnP ?_ ?_ <;> (intro hq; try (have hq' := hq; simp only [hqs] at hq'))) | refine rkC ?_ | refine rkSB ?_ | refine rkF ?_ | refine rkU ?_ | ((fail_if_success (refine rkKn ?_)); refine rkP ?_ ?_ <;> (intro hq; try (have hq' := hq; simp only [hqs] at hq'))) | refine stp ?_ | refine ifT ?_ | refine ifF ?_ | (refine ifQ ?_ ?_ <;> (try (intro hn))) | (refine ifB ?_ ?_ <;> (intro hq; try (have hq' := hq; simp only [hqs] at hq'))))
      exact rt1 rfl rfl finS_p rfl
  have d2 : decide (20 < (k.length : Int)) = false := decide_eq_false (by omega)
  repeat' (first | refine rnC ?_ | refine rnSB ?_ | refine rnG ?_ | refine rnU ?_ | ((fail_if_success (refine rnKn ?_)); refine rnP ?_ ?_ <;> (intro hq; try (have hq' := hq; simp only [hqs] at hq'))) | refine rkC ?_ | refine rkSB ?_ | refine rkF ?_ | refine rkU ?_ | ((fail_if_success (refine rkKn ?_)); refine rkP ?_ ?_ <;> (intro hq; try (have hq' := hq; simp only [hqs] at hq'))) | refine stp ?_ | refine ifT ?_ | refine ifF ?_ | (refine ifQ ?_ ?_ <;> (try (intro hn))) | (refine ifB ?_ ?_ <;> (intro hq; try (have hq' := hq; simp only [hqs] at hq'))))
  refine aws_loopS [2, 3, 4, 13, 14, 15, 16, 17, 18, 19, 20, 21, 22, 23, 24, 25, 26, 27, 28, 29, 30, 31, 32, 33, 34, 35, 36, 37, 38, 39, 40] [] (fun (i : Nat) => [(3, .p (.i i))]) (fun _ => []) (fun i => i ≤ k.length ∧ ∀ j, j < i → byteOk (k.getD j default) = true) (fun i => k.length - i) 0 ⟨Nat.zero_le _, fun j hj => absurd hj (Nat.not_lt_zero _)⟩ (by exact knA) (by exact knA) ?_
  rintro i β γ ⟨hi, hx⟩
  by_cases hil : i < k.length
  · have d3 : decide ((i : Int) < (k.length : Int)) = true := decide_eq_true (by omega)
    have ei : (i : Int).toNat = i := Int.toNat_natCast i
    obtain ⟨c, hc⟩ : ∃ c, c = k.getD (i : Int).toNat default := ⟨_, rfl⟩
    have hcb : byteOk c = decide ((97 ≤ c ∧ c ≤ 122) ∨ (48 ≤ c ∧ c ≤ 57) ∨ c = 45) := rfl
    have hci : k.getD i default = c := by rw [hc, ei]
    have next : byteOk c = true → ∀ j, j < i + 1 → byteOk (k.getD j default) = true := fun q j hj => by
      by_cases e : j = i
      · rw [e, hci]; exact q
      · exact hx j (by omega)
    have bad : byteOk c = false → decide ((1 ≤ k.length ∧ k.length ≤ 20) ∧ ∀ j, j < k.length → byteOk (k.getD j default) = true) = false := fun q => decide_eq_false (fun z => by have := z.2 i hil; rw [hci, q] at this; cases this)
    rw [hcb] at next bad
    clear hcb hci
    as_aux_lemma =>
      repeat' (first | refine rnC ?_ | refine rnSB ?_ | refine rnG ?_ | refine rnU ?_ | ((fail_if_success (refine rnKn ?_)); refine rnP ?_ ?_ <;> (intro hq; try (have hq' := hq; simp only [hqs] at hq'))) | refine rkC ?_ | refine rkSB ?_ | refine rkF ?_ | refine rkU ?_ | ((fail_if_success (refine rkKn ?_)); refine rkP ?_ ?_ <;> (intro hq; try (have hq' := hq; simp only [hqs] at hq'))) | refine stp ?_ | refine aws_draws [] mixed (by kernel_rfl) ?_ | refine ifT ?_ | refine ifF ?_ | (refine ifQ ?_ ?_ <;> (try (intro hn))) | (refine ifB ?_ ?_ <;> (intro hq; try (have hq' := hq; simp only [hqs] at hq'))))
      all_goals first | exact ⟨i + 1, _, by omega, ⟨by omega, next (decide_eq_true (by omega))⟩, .refl, by exact frA⟩ | (rw [bad (decide_eq_false (by omega))]; exact rt1 rfl rfl finS_p rfl)
  · have d3 : decide ((i : Int) < (k.length : Int)) = false := decide_eq_false (by omega)
    rw [decide_eq_true (show (1 ≤ k.length ∧ k.length ≤ 20) ∧ ∀ j, j < k.length → byteOk (k.getD j default) = true from ⟨by omega, fun j hj => hx j (by omega)⟩)]
    as_aux_lemma =>
      repeat' (first | refine rnC ?_ | refine rnSB ?_ | refine rnG ?_ | refine rnU ?_ | ((fail_if_success (refine rnKn ?_)); refine rnP ?_ ?_ <;> (intro hq; try (have hq' := hq; simp only [hqs] at hq'))) | refine rkC ?_ | refine rkSB ?_ | refine rkF ?_ | refine rkU ?_ | ((fail_if_success (refine rkKn ?_)); refine rkP ?_ ?_ <;> (intro hq; try (have hq' := hq; simp only [hqs] at hq'))) | refine stp ?_ | refine ifT ?_ | refine ifF ?_ | (refine ifQ ?_ ?_ <;> (try (intro hn))) | (refine ifB ?_ ?_ <;> (intro hq; try (have hq' := hq; simp only [hqs] at hq'))))
      exact rt1 rfl rfl finS_p rfl
theorem leaf_top (k : List Nat) : (sum k).getD 0 default / 2 % 16 = leafF k := by
  unfold leafF pointF
  have h := fun j => getD_ok (sum_okB k) j
  have h0 := h 0; have h1 := h 1; have h2 := h 2; have h3 := h 3; have h4 := h 4; have h5 := h 5; have h6 := h 6; have h7 := h 7
  simp only [pv]
  omega
end Go.Proofs.YtlaeldgebecppaaGreat.Rg
