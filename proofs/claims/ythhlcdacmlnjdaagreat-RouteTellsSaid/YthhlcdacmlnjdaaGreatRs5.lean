/- SHA-256, the reference: the sum -/
import Derived.Test.YthhlcdacmlnjdaaGreatRs3
import Derived.Test.YthhlcdacmlnjdaaGreatRs4
import Derived.Test.YthhlcdacmlnjdaaGreatSh7
namespace Go.Proofs.YthhlcdacmlnjdaaGreat.Sh
open Go Go.RowKit Go.Aw Go.Aw.Sha
set_option linter.unusedVariables false
set_option linter.unusedSimpArgs false
set_option maxRecDepth 8000
set_option maxHeartbeats 4000000

attribute [local irreducible] pad blocks block sum
theorem okB_pad {b : List Nat} (h : okB b) : okB (pad b) := by
  unfold pad
  refine okB.append (okB.append (okB.append h (okB.cons (by decide) .nil)) ?_) ?_
  · intro n hn
    rw [List.eq_of_mem_replicate hn]; decide
  · intro n hn
    obtain ⟨i, _, rfl⟩ := List.mem_map.1 hn
    exact Nat.mod_lt _ (by decide)
theorem okB_chunk {b : List Nat} (h : okB b) (n m : Nat) : okB ((b.drop n).take m) := fun x hx => h x (List.mem_of_mem_drop (List.mem_of_mem_take hx))
theorem rsum_c (b : List Nat) (ex : Bool) (h : b.length ≤ 500000000) (hb : okB b) : PCall Tryz.prog 53 [bytesN b ex] (.a ((sum b).map bc)) := by
  refine pcall_of Tryz.func53 rfl (fun w0 F S0 M0 => ?_)
  have hp : (pad b).length ≤ 1000000000 := by rw [pad_len]; unfold zeros; omega
  have hp64 := pad_64 b
  have hpo := okB_pad hb
  have hsum : sum b = digest (blocks (pad b) ((pad b).length / 64)) := sum_def _
  repeat' (first
      | refine rnBW ?_
      | refine rnSB ?_
      | refine rnG ?_
      | refine rnU ?_
      | ((fail_if_success (refine rnKn ?_)); refine rnP ?_ ?_ <;> (intro hq; try (have hq' := hq; simp only [hqs] at hq')))
      | refine rkBW ?_
      | refine rkSB ?_
      | refine rkF ?_
      | refine rkU ?_
      | ((fail_if_success (refine rkKn ?_)); refine rkP ?_ ?_ <;> (intro hq; try (have hq' := hq; simp only [hqs] at hq')))
      | refine stp ?_
      | refine ifT ?_
      | refine ifF ?_
      | (refine ifQ ?_ ?_ <;> (try (intro hn)))
      | (refine ifB ?_ ?_ <;> (intro hq; try (have hq' := hq; simp only [hqs] at hq'))))
  generalize hP : pad b = P at hp hp64 hsum hpo ⊢
  refine aws_loopS [5, 11, 12, 13, 14, 15, 16, 17, 18, 19, 20, 21, 22, 23] [3] (fun (x : Nat × Int × V8) => [(5, .p (.i x.2.1))]) (fun x => [(3, (1, some (.box 102 (u8c x.2.2))))])
    (fun x => x.1 ≤ P.length / 64 ∧ x.2.1 = 64 * (x.1 : Int) ∧ x.2.2 = blocks P x.1) (fun x => P.length / 64 - x.1) (0, 0, firstV) ⟨Nat.zero_le _, rfl, blocks_zero P⟩ (by exact knA) (by exact knA) ?_
  rintro ⟨j, t, v⟩ β γ ⟨hj, ht, hv⟩
  simp only at hj ht hv
  dsimp only
  by_cases hjl : j < P.length / 64
  · have hd : decide (t < (P.length : Int)) = true := decide_eq_true (by omega)
    have hcl : ((P.drop t.toNat).take ((t + 64).toNat - t.toNat)).length = 64 := by simp only [List.length_take, List.length_drop]; omega
    have hco : okB ((P.drop t.toNat).take ((t + 64).toNat - t.toNat)) := okB_chunk hpo _ _
    have hvo : v.ok := by rw [hv]; exact blocks_ok P j
    obtain ⟨B, hB⟩ : ∃ B, B = block v ((P.drop t.toNat).take ((t + 64).toNat - t.toNat)) := ⟨_, rfl⟩
    haveI : PC Tryz.prog 61 [.a (u8c v), bytesN ((P.drop t.toNat).take ((t + 64).toNat - t.toNat)) false] True (.a (u8c B)) := ⟨fun _ => by rw [hB]; exact rnext_c v _ false hcl hco hvo⟩
    repeat' (first
        | refine rnB ?_
        | refine rnSB ?_
        | refine rnG ?_
        | refine rnU ?_
        | ((fail_if_success (refine rnKn ?_)); refine rnP ?_ ?_ <;> (intro hq; try (have hq' := hq; simp only [hqs] at hq')))
        | refine rkB ?_
        | refine rkSB ?_
        | refine rkF ?_
        | refine rkU ?_
        | ((fail_if_success (refine rkKn ?_)); refine rkP ?_ ?_ <;> (intro hq; try (have hq' := hq; simp only [hqs] at hq')))
        | refine stp ?_
        | refine ifT ?_
        | refine ifF ?_
        | (refine ifQ ?_ ?_ <;> (try (intro hn)))
        | (refine ifB ?_ ?_ <;> (intro hq; try (have hq' := hq; simp only [hqs] at hq'))))
    refine aws_draws [(7, 3)] mixed (by kernel_rfl) ?_
    repeat' (first
        | refine rk_nil ?_
        | refine rkB ?_
        | refine rkSB ?_
        | refine rkF ?_
        | refine rkU ?_
        | ((fail_if_success (refine rkKn ?_)); refine rkP ?_ ?_ <;> (intro hq; try (have hq' := hq; simp only [hqs] at hq'))))
    repeat' (first
        | refine rnB ?_
        | refine rnSB ?_
        | refine rnG ?_
        | refine rnU ?_
        | ((fail_if_success (refine rnKn ?_)); refine rnP ?_ ?_ <;> (intro hq; try (have hq' := hq; simp only [hqs] at hq')))
        | refine rkB ?_
        | refine rkSB ?_
        | refine rkF ?_
        | refine rkU ?_
        | ((fail_if_success (refine rkKn ?_)); refine rkP ?_ ?_ <;> (intro hq; try (have hq' := hq; simp only [hqs] at hq')))
        | refine stp ?_
        | refine ifT ?_
        | refine ifF ?_
        | (refine ifQ ?_ ?_ <;> (try (intro hn)))
        | (refine ifB ?_ ?_ <;> (intro hq; try (have hq' := hq; simp only [hqs] at hq'))))
    refine ⟨(j + 1, t + 64, B), _, by dsimp only; omega, ⟨by dsimp only; omega, by dsimp only; omega, ?_⟩, .refl, by exact frA⟩
    dsimp only
    rw [blocks_succ, ← hv, hB, chunkAt, show t.toNat = 64 * j by omega, show (t + 64).toNat - 64 * j = 64 by omega]
  · have hd : decide (t < (P.length : Int)) = false := decide_eq_false (by omega)
    repeat' (first
        | refine rnB ?_
        | refine rnSB ?_
        | refine rnG ?_
        | refine rnU ?_
        | ((fail_if_success (refine rnKn ?_)); refine rnP ?_ ?_ <;> (intro hq; try (have hq' := hq; simp only [hqs] at hq')))
        | refine rkB ?_
        | refine rkSB ?_
        | refine rkF ?_
        | refine rkU ?_
        | ((fail_if_success (refine rkKn ?_)); refine rkP ?_ ?_ <;> (intro hq; try (have hq' := hq; simp only [hqs] at hq')))
        | refine stp ?_
        | refine ifT ?_
        | refine ifF ?_
        | (refine ifQ ?_ ?_ <;> (try (intro hn)))
        | (refine ifB ?_ ?_ <;> (intro hq; try (have hq' := hq; simp only [hqs] at hq'))))
    have hj' : j = P.length / 64 := by omega
    obtain ⟨va, vb, vc, vd, ve, vf, vg, vh⟩ := v
    generalize hV : (V8.mk va vb vc vd ve vf vg vh) = V at hv
    have hvl : V.list = [va, vb, vc, vd, ve, vf, vg, vh] := by rw [← hV]; rfl
    refine aws_loopS [7, 24, 25, 26, 27, 28, 29, 30, 31, 32, 33, 34, 35, 36, 37, 38, 39] [3, 6] (fun (x : Nat × List Nat) => [(7, .p (.i x.1))]) (fun x => [(3, (1, some (.box 102 (V.list.map uc)))), (6, (1, some (.box 93 (x.2.map bc))))])
      (fun x => x.1 ≤ 32 ∧ x.2 = digTo V x.1) (fun x => 32 - x.1) (0, digTo V 0) ⟨Nat.zero_le _, rfl⟩ (by exact knA) (by subst hV; exact knA) ?_
    rintro ⟨i, ds⟩ β' γ' ⟨hi, hds⟩
    simp only at hi hds
    have hdl : ds.length = 32 := by rw [hds]; exact digTo_len V _
    have hVl : V.list.length = 8 := rfl
    dsimp only
    by_cases hi32 : i < 32
    · have hdi : decide ((i : Int) < 32) = true := decide_eq_true (by omega)
      repeat' (first
          | refine rnB ?_
          | refine rnSB ?_
          | refine rnG ?_
          | refine rnU ?_
          | ((fail_if_success (refine rnKn ?_)); refine rnP ?_ ?_ <;> (intro hq; try (have hq' := hq; simp only [hqs] at hq')))
          | refine rkB ?_
          | refine rkSB ?_
          | refine rkF ?_
          | refine rkU ?_
          | ((fail_if_success (refine rkKn ?_)); refine rkP ?_ ?_ <;> (intro hq; try (have hq' := hq; simp only [hqs] at hq')))
          | refine stp ?_
          | refine ifT ?_
          | refine ifF ?_
          | (refine ifQ ?_ ?_ <;> (try (intro hn)))
          | (refine ifB ?_ ?_ <;> (intro hq; try (have hq' := hq; simp only [hqs] at hq'))))
      repeat' (first
          | refine rnBW ?_
          | refine rnSB ?_
          | refine rnG ?_
          | refine rnU ?_
          | ((fail_if_success (refine rnKn ?_)); refine rnP ?_ ?_ <;> (intro hq; try (have hq' := hq; simp only [hqs] at hq')))
          | refine rkBW ?_
          | refine rkSB ?_
          | refine rkF ?_
          | refine rkU ?_
          | ((fail_if_success (refine rkKn ?_)); refine rkP ?_ ?_ <;> (intro hq; try (have hq' := hq; simp only [hqs] at hq')))
          | refine stp ?_
          | refine ifT ?_
          | refine ifF ?_
          | (refine ifQ ?_ ?_ <;> (try (intro hn)))
          | (refine ifB ?_ ?_ <;> (intro hq; try (have hq' := hq; simp only [hqs] at hq'))))
      apply ex2 (i + 1)
      apply Exists.intro
      refine ⟨?_, ⟨?_, ?_⟩, .refl, ?_⟩
      rotate_left 3
      (focus exact frA)
      · dsimp only; omega
      · dsimp only; omega
      · dsimp only
        have e1 : ((i : Int) / 4).toNat = i / 4 := by omega
        have e2 : ((24 : Int) - 8 * ((i : Int) % 4)).toNat = 24 - 8 * (i % 4) := by omega
        rw [e1, e2, Int.toNat_natCast, digTo, ← hds]
        rfl
    · have hdi : decide ((i : Int) < 32) = false := decide_eq_false (by omega)
      repeat' (first
          | refine rnB ?_
          | refine rnSB ?_
          | refine rnG ?_
          | refine rnU ?_
          | ((fail_if_success (refine rnKn ?_)); refine rnP ?_ ?_ <;> (intro hq; try (have hq' := hq; simp only [hqs] at hq')))
          | refine rkB ?_
          | refine rkSB ?_
          | refine rkF ?_
          | refine rkU ?_
          | ((fail_if_success (refine rkKn ?_)); refine rkP ?_ ?_ <;> (intro hq; try (have hq' := hq; simp only [hqs] at hq')))
          | refine stp ?_
          | refine ifT ?_
          | refine ifF ?_
          | (refine ifQ ?_ ?_ <;> (try (intro hn)))
          | (refine ifB ?_ ?_ <;> (intro hq; try (have hq' := hq; simp only [hqs] at hq'))))
      refine rc1 rfl rfl rfl rfl rfl (by simpa using hdl) finL_p ?_
      rw [hds, show i = 32 by omega, digTo_all, hsum, ← hj', hv]
instance {b : List Nat} {ex : Bool} : PC Tryz.prog 53 [bytesN b ex] (b.length ≤ 500000000 ∧ okB b) (.a ((sum b).map bc)) := ⟨fun k => rsum_c b ex k.1 k.2⟩
end Go.Proofs.YthhlcdacmlnjdaaGreat.Sh
