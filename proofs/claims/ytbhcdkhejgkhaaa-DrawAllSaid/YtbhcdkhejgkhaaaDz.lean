/- Chapter 25 (draw): each one is picked. -/
import Derived.Test.YtbhcdkhejgkhaaaDw
namespace Go.Proofs.Ytbhcdkhejgkhaaa.Dr
open Go Go.RowKit Go.Aw
set_option linter.unusedVariables false
set_option maxRecDepth 4000

def dOf (n : Nat) (more : List Int) (j : Nat) : Int := j + n * more.getD j default
def drawsTo (n : Nat) (more : List Int) (k : Nat) : List Int := (List.range k).map fun t => dOf n more (n - 1 - t)
def someTo (n : Nat) (more : List Int) (wo : Int) (k : Nat) : List Int := ((List.range k).filter fun t => decide (((n - 1 - t : Nat) : Int) ≠ wo)).map fun t => dOf n more (n - 1 - t)
theorem drawsTo_succ {n : Nat} {more : List Int} {k : Nat} : drawsTo n more (k + 1) = drawsTo n more k ++ [dOf n more (n - 1 - k)] := by
  unfold drawsTo; rw [List.range_succ, List.map_append]; rfl
theorem someTo_succ {n : Nat} {more : List Int} {wo : Int} {k : Nat} : someTo n more wo (k + 1) = someTo n more wo k ++ if ((n - 1 - k : Nat) : Int) ≠ wo then [dOf n more (n - 1 - k)] else [] := by
  unfold someTo; rw [List.range_succ, List.filter_append, List.map_append]
  congr 1
  by_cases h : ((n - 1 - k : Nat) : Int) ≠ wo <;> simp [h]
theorem drawsTo_len {n : Nat} {more : List Int} {k : Nat} : (drawsTo n more k).length = k := by simp [drawsTo]
theorem someTo_len {n : Nat} {more : List Int} {wo : Int} {k : Nat} : (someTo n more wo k).length ≤ k := by
  unfold someTo
  have := List.length_filter_le (fun t => decide (((n - 1 - t : Nat) : Int) ≠ wo)) (List.range k)
  simpa using this
theorem dOf_mod {n : Nat} {more : List Int} {j : Nat} (h : j < n) : dOf n more j % (n : Int) = j := by
  unfold dOf
  rw [Int.add_mul_emod_self_left]
  exact Int.emod_eq_of_lt (by omega) (by omega)
theorem hit_draws {n : Nat} {more : List Int} {i : Nat} (h : i < n) : hit n (drawsTo n more n) i = true := by
  refine List.any_eq_true.2 ⟨dOf n more i, ?_, decide_eq_true (dOf_mod h)⟩
  unfold drawsTo
  exact List.mem_map.2 ⟨n - 1 - i, by simp; omega, by congr 1; omega⟩
theorem hit_some {n : Nat} {more : List Int} {wo : Int} {i : Nat} (h : i < n) : hit n (someTo n more wo n) i = decide ((i : Int) ≠ wo) := by
  by_cases hw : (i : Int) ≠ wo
  · rw [decide_eq_true hw]
    refine List.any_eq_true.2 ⟨dOf n more i, ?_, decide_eq_true (dOf_mod h)⟩
    unfold someTo
    refine List.mem_map.2 ⟨n - 1 - i, List.mem_filter.2 ⟨by simp; omega, ?_⟩, by congr 1; omega⟩
    rw [show n - 1 - (n - 1 - i) = i by omega]
    exact decide_eq_true hw
  · rw [decide_eq_false hw]
    refine Bool.eq_false_iff.2 fun hc => ?_
    obtain ⟨x, hx, hd⟩ := List.any_eq_true.1 hc
    obtain ⟨t, ht, rfl⟩ := List.mem_map.1 hx
    obtain ⟨ht1, ht2⟩ := List.mem_filter.1 ht
    simp only [List.mem_range] at ht1
    have hd' := of_decide_eq_true hd
    rw [dOf_mod (by omega)] at hd'
    have ht3 := of_decide_eq_true ht2
    exact ht3 (by rw [hd']; exact Decidable.not_not.1 hw)
theorem seen_draws {l more : List Int} : seenF l (drawsTo l.length more l.length) = l := by
  unfold seenF seenTo
  rw [List.filter_eq_self.2 fun i hi => hit_draws (by simpa using hi)]
  apply List.ext_getElem <;> simp
  intro i h1 h2
  simp [h1]
theorem seen_some {l more : List Int} {wo : Int} : (seenF l (someTo l.length more wo l.length)).length = if 0 ≤ wo ∧ wo < l.length then l.length - 1 else l.length := by
  unfold seenF seenTo
  rw [List.length_map]
  have e0 : (List.range l.length).filter (hit l.length (someTo l.length more wo l.length)) = (List.range l.length).filter (fun i : Nat => decide ((i : Int) ≠ wo)) := List.filter_congr fun i hi => hit_some (List.mem_range.1 hi)
  rw [e0]
  by_cases h : 0 ≤ wo ∧ wo < l.length
  · rw [if_pos h]
    have e : (List.range l.length).filter (fun i : Nat => decide ((i : Int) ≠ wo)) = (List.range l.length).erase wo.toNat := by
      rw [List.Nodup.erase_eq_filter List.nodup_range]
      refine List.filter_congr fun i _ => ?_
      rw [Bool.eq_iff_iff]; simp; omega
    rw [e, List.length_erase_of_mem (by simp; omega)]
    simp
  · rw [if_neg h, List.filter_eq_self.2 fun i hi => ?_]
    · simp
    · simp only [List.mem_range] at hi
      exact decide_eq_true (by omega)
theorem u64ok_draws {n : Nat} {more : List Int} {k : Nat} (h : n ≤ 60) (hm : ∀ x ∈ more, 0 ≤ x ∧ x < 256) (j : Nat) (hj : j < n) : 0 ≤ dOf n more j ∧ dOf n more j < 18446744073709551616 := by
  have hx : 0 ≤ more.getD j default ∧ more.getD j default < 256 := by
    rw [List.getD_eq_getElem?_getD]
    cases hx : more[j]? with
    | none => exact ⟨Int.le_refl _, by decide⟩
    | some x => exact hm x (List.mem_of_getElem? hx)
  unfold dOf
  have h1 : 0 ≤ (n : Int) * more.getD j default := Int.mul_nonneg (by omega) hx.1
  have h2 : (n : Int) * more.getD j default ≤ 60 * 255 := Int.mul_le_mul (by omega) (by omega) hx.1 (by omega)
  omega

abbrev u8s (l : List Int) (ex : Bool) : AV := .p (.sl 1 (l.map fun n => [PVal.k .u8 n]) ex)
set_option maxHeartbeats 1000000 in
theorem all_c (l more : List Int) (wo : Int) (ex ey : Bool) (h : l.length ≤ 9223372036854775807 ∧ more.length ≤ 9223372036854775807) (hm : ∀ x ∈ more, 0 ≤ x ∧ x < 256) (hw : -9223372036854775808 ≤ wo ∧ wo ≤ 9223372036854775807) : PCall Try.prog 9 [ints l ex, u8s more ey, .p (.i wo)] (.p (.b true)) := by
  refine pcall_of Try.func9 rfl (fun w0 F S0 M0 => ?_)
  repeat' (first
      | refine rn_nil ?_
      | refine rnA ?_
      | refine rnS ?_
      | refine rnG ?_
      | ((fail_if_success (refine rnKn ?_)); refine rnP ?_ ?_ <;> (intro hq; try (have hq' := hq; simp only [hqs] at hq')))
      | refine rk_nil ?_
      | refine rkA ?_
      | refine rkF ?_
      | ((fail_if_success (refine rkKn ?_)); refine rkP ?_ ?_ <;> (intro hq; try (have hq' := hq; simp only [hqs] at hq')))
      | refine aws_seq ?_
      | refine aws_region ?_
      | refine aws_draws [] mixed (by kernel_rfl) ?_
      | refine aws_skip ?_
      | refine aws_exit ?_
      | refine aws_nil ?_
      | refine aws_blk_s ?_
      | refine aws_blk_r ?_
      | refine aws_blk_c ?_
      | refine blk_exit ?_
      | refine blk_normal ?_
      | refine blk_ret ?_
      | refine aws_ret ?_
      | refine ifT ?_
      | refine ifF ?_
      | (refine ifQ ?_ ?_ <;> (try (intro hn)))
      | (refine ifB ?_ ?_ <;> (intro hq; try (have hq' := hq; simp only [hqs] at hq'))))
  · exact rt1 rfl rfl finS_p rfl
  · exact rt1 rfl rfl finS_p rfl
  · exact rt1 rfl rfl finS_p rfl
  · refine aws_says (says_nil (t := 7) (o := 900) (ty := 39) (es := 1) rfl rfl (by decide)) ?_
    refine aws_says (says_nil (t := 8) (o := 901) (ty := 39) (es := 1) rfl rfl (by decide)) ?_
    refine aws_loopS [7, 8, 9, 10, 31, 32, 33, 34, 35, 36, 37, 38, 39, 40, 41, 42, 43, 44, 45, 46, 47, 48, 49, 50, 51, 52, 53, 54, 55, 56, 57] [900, 901] (fun (x : Nat × Int × Nat × Nat × List Int × List Int) => [(7, .o (.osl 900 x.2.2.1 1 0 x.2.2.2.2.1.length)), (8, .o (.osl 901 x.2.2.2.1 1 0 x.2.2.2.2.2.length)), (9, .p (.i x.2.1))])
      (fun x => [(900, (x.2.2.1 + 1, some (.buf 39 1 (x.2.2.2.2.1.map fun n => [PVal.k .u64 n])))), (901, (x.2.2.2.1 + 1, some (.buf 39 1 (x.2.2.2.2.2.map fun n => [PVal.k .u64 n]))))])
      (fun x => x.1 ≤ l.length ∧ x.2.1 = (l.length : Int) - 1 - x.1 ∧ x.2.2.2.2.1 = drawsTo l.length more x.1 ∧ x.2.2.2.2.2 = someTo l.length more wo x.1) (fun x => l.length - x.1) (0, (l.length : Int) - 1, 0, 0, [], []) ⟨Nat.zero_le _, by simp, rfl, rfl⟩ (by exact knA) (by exact knA) ?_
    rintro ⟨k, i, g1, g2, ds, ss⟩ β γ ⟨hk, hi, hds, hss⟩
    simp only at hk hi hds hss
    have hdl : ds.length = k := by rw [hds]; exact drawsTo_len
    have hsl : ss.length ≤ k := by rw [hss]; exact someTo_len
    dsimp only
    by_cases hik : k < l.length
    · have hj : i.toNat = l.length - 1 - k := by omega
      have hok := u64ok_draws (n := l.length) (more := more) (k := k) (by omega) hm i.toNat (by omega)
      have hx : 0 ≤ more.getD i.toNat default ∧ more.getD i.toNat default < 256 := by
        rw [List.getD_eq_getElem?_getD]
        cases hx : more[i.toNat]? with
        | none => exact ⟨Int.le_refl _, by decide⟩
        | some x => exact hm x (List.mem_of_getElem? hx)
      have h1 : 0 ≤ (l.length : Int) * more.getD i.toNat default := Int.mul_nonneg (by omega) hx.1
      have h2 : (l.length : Int) * more.getD i.toNat default ≤ 60 * 255 := Int.mul_le_mul (by omega) (by omega) hx.1 (by omega)
      have hge : decide (0 ≤ i) = true := decide_eq_true (by omega)
      have hval : dOf l.length more (l.length - 1 - k) = i + (l.length : Int) * more.getD i.toNat default := by rw [← hj]; unfold dOf; congr 1; omega
      repeat' (first
          | refine rn_nil ?_
          | refine rnA ?_
          | refine rnS ?_
          | refine rnG ?_
          | ((fail_if_success (refine rnKn ?_)); refine rnP ?_ ?_ <;> (intro hq; try (have hq' := hq; simp only [hqs] at hq')))
          | refine rk_nil ?_
          | refine rkA ?_
          | refine rkF ?_
          | ((fail_if_success (refine rkKn ?_)); refine rkP ?_ ?_ <;> (intro hq; try (have hq' := hq; simp only [hqs] at hq')))
          | refine aws_seq ?_
          | refine aws_region ?_
          | refine aws_draws [] mixed (by kernel_rfl) ?_
          | refine aws_skip ?_
          | refine aws_exit ?_
          | refine aws_nil ?_
          | refine aws_blk_s ?_
          | refine aws_blk_r ?_
          | refine aws_blk_c ?_
          | refine blk_exit ?_
          | refine blk_normal ?_
          | refine blk_ret ?_
          | refine aws_ret ?_
          | refine ifT ?_
          | refine ifF ?_
          | (refine ifQ ?_ ?_ <;> (try (intro hn)))
          | (refine ifB ?_ ?_ <;> (intro hq; try (have hq' := hq; simp only [hqs] at hq'))))
      · refine ⟨(k + 1, i - 1, g1 + 1, g2 + 1, ds ++ [i + (l.length : Int) * more.getD i.toNat default], ss ++ [i + (l.length : Int) * more.getD i.toNat default]), _, by dsimp only; omega, ⟨by dsimp only; omega, by dsimp only; omega, ?_, ?_⟩, .refl, by exact frA⟩
        · dsimp only; rw [drawsTo_succ, hval, hds]
        · dsimp only; rw [someTo_succ, if_pos (by omega), hval, hss]
      · refine ⟨(k + 1, i - 1, g1 + 1, g2, ds ++ [i + (l.length : Int) * more.getD i.toNat default], ss), _, by dsimp only; omega, ⟨by dsimp only; omega, by dsimp only; omega, ?_, ?_⟩, .refl, by exact frA⟩
        · dsimp only; rw [drawsTo_succ, hval, hds]
        · dsimp only; rw [someTo_succ, if_neg (by omega), List.append_nil, hss]
    · have hge : decide (0 ≤ i) = false := decide_eq_false (by omega)
      have hkl : k = l.length := by omega
      subst hkl
      have hod : u64ok ds := fun x hx => by
        rw [hds] at hx
        obtain ⟨t, ht, rfl⟩ := List.mem_map.1 hx
        simp only [List.mem_range] at ht
        exact u64ok_draws (n := l.length) (k := l.length) (by omega) hm _ (by omega)
      have hos : u64ok ss := fun x hx => by
        rw [hss] at hx
        obtain ⟨t, ht, rfl⟩ := List.mem_map.1 hx
        obtain ⟨ht, _⟩ := List.mem_filter.1 ht
        simp only [List.mem_range] at ht
        exact u64ok_draws (n := l.length) (k := l.length) (by omega) hm _ (by omega)
      have hs1 : seenF l ds = l := by rw [hds]; exact seen_draws
      have hs2 : (seenF l ss).length = if 0 ≤ wo ∧ wo < l.length then l.length - 1 else l.length := by rw [hss]; exact seen_some
      have hb1 : decide (seenF l ds = l) = true := decide_eq_true hs1
      have hb2 : (seenF l ds).length ≤ 60 := by rw [hs1]; omega
      have hb3 : (seenF l ss).length ≤ 60 := by rw [hs2]; split <;> omega
      clear hds hss
      repeat' (first
          | refine rn_nil ?_
          | refine rnA ?_
          | refine rnS ?_
          | refine rnG ?_
          | ((fail_if_success (refine rnKn ?_)); refine rnP ?_ ?_ <;> (intro hq; try (have hq' := hq; simp only [hqs] at hq')))
          | refine rk_nil ?_
          | refine rkA ?_
          | refine rkF ?_
          | ((fail_if_success (refine rkKn ?_)); refine rkP ?_ ?_ <;> (intro hq; try (have hq' := hq; simp only [hqs] at hq')))
          | refine aws_seq ?_
          | refine aws_region ?_
          | refine aws_draws [] mixed (by kernel_rfl) ?_
          | refine aws_skip ?_
          | refine aws_exit ?_
          | refine aws_nil ?_
          | refine aws_blk_s ?_
          | refine aws_blk_r ?_
          | refine aws_blk_c ?_
          | refine blk_exit ?_
          | refine blk_normal ?_
          | refine blk_ret ?_
          | refine aws_ret ?_
          | refine ifT ?_
          | refine ifF ?_
          | (refine ifQ ?_ ?_ <;> (try (intro hn)))
          | (refine ifB ?_ ?_ <;> (intro hq; try (have hq' := hq; simp only [hqs] at hq'))))
      all_goals (refine rn_says_g (says_frz (t := 73) (o := 900) rfl rfl rfl (by simp)) rfl rfl rfl rfl rfl rfl ?_)
      repeat' (first
          | refine rn_nil ?_
          | refine rnA ?_
          | refine rnS ?_
          | refine rnG ?_
          | ((fail_if_success (refine rnKn ?_)); refine rnP ?_ ?_ <;> (intro hq; try (have hq' := hq; simp only [hqs] at hq')))
          | refine rk_nil ?_
          | refine rkA ?_
          | refine rkF ?_
          | ((fail_if_success (refine rkKn ?_)); refine rkP ?_ ?_ <;> (intro hq; try (have hq' := hq; simp only [hqs] at hq')))
          | refine aws_seq ?_
          | refine aws_region ?_
          | refine aws_draws [] mixed (by kernel_rfl) ?_
          | refine aws_skip ?_
          | refine aws_exit ?_
          | refine aws_nil ?_
          | refine aws_blk_s ?_
          | refine aws_blk_r ?_
          | refine aws_blk_c ?_
          | refine blk_exit ?_
          | refine blk_normal ?_
          | refine blk_ret ?_
          | refine aws_ret ?_
          | refine ifT ?_
          | refine ifF ?_
          | (refine ifQ ?_ ?_ <;> (try (intro hn)))
          | (refine ifB ?_ ?_ <;> (intro hq; try (have hq' := hq; simp only [hqs] at hq'))))
      all_goals (refine rn_says_g (says_frz (t := 80) (o := 901) rfl rfl rfl (by simp)) rfl rfl (by first | rfl | assumption) (by first | rfl | assumption) rfl (by first | rfl | assumption) ?_)
      repeat' (first
          | refine rn_nil ?_
          | refine rnA ?_
          | refine rnS ?_
          | refine rnG ?_
          | ((fail_if_success (refine rnKn ?_)); refine rnP ?_ ?_ <;> (intro hq; try (have hq' := hq; simp only [hqs] at hq')))
          | refine rk_nil ?_
          | refine rkA ?_
          | refine rkF ?_
          | ((fail_if_success (refine rkKn ?_)); refine rkP ?_ ?_ <;> (intro hq; try (have hq' := hq; simp only [hqs] at hq')))
          | refine aws_seq ?_
          | refine aws_region ?_
          | refine aws_draws [] mixed (by kernel_rfl) ?_
          | refine aws_skip ?_
          | refine aws_exit ?_
          | refine aws_nil ?_
          | refine aws_blk_s ?_
          | refine aws_blk_r ?_
          | refine aws_blk_c ?_
          | refine blk_exit ?_
          | refine blk_normal ?_
          | refine blk_ret ?_
          | refine aws_ret ?_
          | refine ifT ?_
          | refine ifF ?_
          | (refine ifQ ?_ ?_ <;> (try (intro hn)))
          | (refine ifB ?_ ?_ <;> (intro hq; try (have hq' := hq; simp only [hqs] at hq'))))
      all_goals exact rt1 rfl rfl finS_p (rb (decide_eq_true (by split at hs2 <;> omega)).symm)
end Go.Proofs.Ytbhcdkhejgkhaaa.Dr
