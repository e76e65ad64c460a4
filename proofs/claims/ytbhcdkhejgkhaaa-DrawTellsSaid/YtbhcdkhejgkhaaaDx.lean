/- Chapter 25 (draw): the document's Deal and Seen. -/
import Derived.Test.YtbhcdkhejgkhaaaDs
import Derived.Test.YtbhcdkhejgkhaaaDv
namespace Go.Proofs.Ytbhcdkhejgkhaaa.Dr
open Go Go.RowKit Go.Aw
set_option linter.unusedVariables false
set_option maxRecDepth 4000

theorem rdeal_c (l ds : List Int) (ex ey : Bool) (h : l.length ≤ 1000000000 ∧ ds.length ≤ 1000000000) (hd : u64ok ds) : PCall Try.prog 30 [ints l ex, u64s ds ey] (ints (dealF [] l ds) false) := by
  refine pcall_of Try.func30 rfl (fun w0 F S0 M0 => ?_)
  repeat' (first
      | refine rn_nil ?_
      | refine rnA ?_
      | refine rnS ?_
      | refine rnG ?_
      | ((fail_if_success (refine rnKn ?_)); refine rnP ?_ ?_ <;> (intro hq; try (have hq' := hq; simp only [hqs] at hq')))
      | refine rk_nil ?_
      | refine rkA ?_
      | refine rkF ?_
      | ((fail_if_success (refine rkKn ?_)); refine rkP ?_ ?_ <;> (intro hq; try (have hq' := hq; simp only [hqs] at hq')))
      | refine aws_seq ?_
      | refine aws_region ?_
      | refine aws_skip ?_
      | refine aws_exit ?_
      | refine aws_nil ?_
      | refine aws_blk_s ?_
      | refine aws_blk_r ?_
      | refine aws_blk_c ?_
      | refine blk_exit ?_
      | refine blk_normal ?_
      | refine blk_ret ?_
      | refine aws_ret ?_
      | refine ifT ?_
      | refine ifF ?_
      | (refine ifQ ?_ ?_ <;> (try (intro hn)))
      | (refine ifB ?_ ?_ <;> (intro hq; try (have hq' := hq; simp only [hqs] at hq'))))
  refine aws_says (says_nil (t := 5) (o := 900) (ty := 3) (es := 1) rfl rfl (by decide)) ?_
  refine aws_loopS [5, 6, 7, 8, 9, 13, 14, 15, 16, 17, 18, 19, 20, 21, 22, 23, 24, 25, 26, 27, 28, 29, 30, 31, 32, 33, 34, 35, 36, 37, 38, 39, 40, 41, 42, 43, 44, 45, 46, 47] [900, 42] (fun (x : Nat × Nat × List Int × List Int) => [(5, .o (.osl 900 x.2.1 1 0 x.2.2.1.length)), (6, .p (.sl 1 (x.2.2.2.map fun n => [PVal.i n]) false)), (7, .p (.i x.1))]) (fun x => [(900, (x.2.1 + 1, some (.buf 3 1 (x.2.2.1.map fun n => [PVal.i n]))))])
    (fun x => x.1 ≤ ds.length ∧ x.2.2.1.length + x.2.2.2.length = l.length ∧ dealF x.2.2.1 x.2.2.2 (ds.drop x.1) = dealF [] l ds) (fun x => ds.length - x.1) (0, 0, [], l) ⟨Nat.zero_le _, by simp, by simp⟩ (by exact knA) (by exact knA) ?_
  · rintro ⟨i, g, out, rest⟩ β γ ⟨hi, hlen, hpre⟩
    have hdi := hd.getD (i : Int).toNat
    have hmod := mod_in (ds.getD (i : Int).toNat default) rest.length
    simp only at hi hlen hpre
    dsimp only
    repeat' (first
        | refine rn_nil ?_
        | refine rnA ?_
        | refine rnS ?_
        | refine rnG ?_
        | ((fail_if_success (refine rnKn ?_)); refine rnP ?_ ?_ <;> (intro hq; try (have hq' := hq; simp only [hqs] at hq')))
        | refine rk_nil ?_
        | refine rkA ?_
        | refine rkF ?_
        | ((fail_if_success (refine rkKn ?_)); refine rkP ?_ ?_ <;> (intro hq; try (have hq' := hq; simp only [hqs] at hq')))
        | refine aws_seq ?_
        | refine aws_region ?_
        | refine aws_skip ?_
        | refine aws_exit ?_
        | refine aws_nil ?_
        | refine aws_blk_s ?_
        | refine aws_blk_r ?_
        | refine aws_blk_c ?_
        | refine blk_exit ?_
        | refine blk_normal ?_
        | refine blk_ret ?_
        | refine aws_ret ?_
        | refine ifT ?_
        | refine ifF ?_
        | (refine ifQ ?_ ?_ <;> (try (intro hn)))
        | (refine ifB ?_ ?_ <;> (intro hq; try (have hq' := hq; simp only [hqs] at hq'))))
    · refine aws_draws [(4, 42), (9, 42)] mixed (by kernel_rfl) ?_
      repeat' (first
          | refine rk_nil ?_
          | refine rkA ?_
          | refine rkF ?_
          | ((fail_if_success (refine rkKn ?_)); refine rkP ?_ ?_ <;> (intro hq; try (have hq' := hq; simp only [hqs] at hq'))))
      repeat' (first
          | refine rn_nil ?_
          | refine rnA ?_
          | refine rnS ?_
          | refine rnG ?_
          | ((fail_if_success (refine rnKn ?_)); refine rnP ?_ ?_ <;> (intro hq; try (have hq' := hq; simp only [hqs] at hq')))
          | refine rk_nil ?_
          | refine rkA ?_
          | refine rkF ?_
          | ((fail_if_success (refine rkKn ?_)); refine rkP ?_ ?_ <;> (intro hq; try (have hq' := hq; simp only [hqs] at hq')))
          | refine aws_seq ?_
          | refine aws_region ?_
          | refine aws_skip ?_
          | refine aws_exit ?_
          | refine aws_nil ?_
          | refine aws_blk_s ?_
          | refine aws_blk_r ?_
          | refine aws_blk_c ?_
          | refine blk_exit ?_
          | refine blk_normal ?_
          | refine blk_ret ?_
          | refine aws_ret ?_
          | refine ifT ?_
          | refine ifF ?_
          | (refine ifQ ?_ ?_ <;> (try (intro hn)))
          | (refine ifB ?_ ?_ <;> (intro hq; try (have hq' := hq; simp only [hqs] at hq'))))
      refine ⟨(i + 1, g + 1, out ++ [rest.getD (ds.getD (i : Int).toNat default % rest.length).toNat default], rest.take (ds.getD (i : Int).toNat default % rest.length).toNat ++ rest.drop (ds.getD (i : Int).toNat default % rest.length + 1).toNat), _, by dsimp only; omega, ⟨by dsimp only; omega, ?_, ?_⟩, says_frz (t := 6) (o := 42) rfl rfl rfl (by simp), by exact frA⟩
      · simp only [List.length_append, List.length_cons, List.length_nil, List.length_take, List.length_drop]; omega
      · dsimp only
        rw [← hpre, drop_cons_getD (i := i) (by omega), dealF, if_neg (by omega)]
        simp only [Int.toNat_natCast]
    · refine rt1 rfl rfl (.one (finC_map rfl rfl rfl rfl)) (rs ?_)
      rw [← hpre, drop_cons_getD (by omega), dealF, if_pos (by omega)]
    · refine rt1 rfl rfl (.one (finC_map rfl rfl rfl rfl)) (rs ?_)
      rw [← hpre, List.drop_of_length_le (by omega), dealF]
instance {l ds : List Int} {ex ey : Bool} : PC Try.prog 30 [ints l ex, u64s ds ey] ((l.length ≤ 1000000000 ∧ ds.length ≤ 1000000000) ∧ u64ok ds) (ints (dealF [] l ds) false) := ⟨fun h => rdeal_c l ds ex ey h.1 h.2⟩

theorem getD_mem {l : List Int} {k : Nat} (h : k < l.length) : l.getD k default ∈ l := by
  rw [List.getD_eq_getElem?_getD, List.getElem?_eq_getElem h]; exact List.getElem_mem h
theorem rseen_c (l ds : List Int) (ex ey : Bool) (h : l.length ≤ 1000000000 ∧ ds.length ≤ 1000000000) (hd : u64ok ds) : PCall Try.prog 32 [ints l ex, u64s ds ey] (ints (seenF l ds) false) := by
  refine pcall_of Try.func32 rfl (fun w0 F S0 M0 => ?_)
  repeat' (first
      | refine rn_nil ?_
      | refine rnA ?_
      | refine rnS ?_
      | refine rnG ?_
      | ((fail_if_success (refine rnKn ?_)); refine rnP ?_ ?_ <;> (intro hq; try (have hq' := hq; simp only [hqs] at hq')))
      | refine rk_nil ?_
      | refine rkA ?_
      | refine rkF ?_
      | ((fail_if_success (refine rkKn ?_)); refine rkP ?_ ?_ <;> (intro hq; try (have hq' := hq; simp only [hqs] at hq')))
      | refine aws_seq ?_
      | refine aws_region ?_
      | refine aws_skip ?_
      | refine aws_exit ?_
      | refine aws_nil ?_
      | refine aws_blk_s ?_
      | refine aws_blk_r ?_
      | refine aws_blk_c ?_
      | refine blk_exit ?_
      | refine blk_normal ?_
      | refine blk_ret ?_
      | refine aws_ret ?_
      | refine ifT ?_
      | refine ifF ?_
      | (refine ifQ ?_ ?_ <;> (try (intro hn)))
      | (refine ifB ?_ ?_ <;> (intro hq; try (have hq' := hq; simp only [hqs] at hq'))))
  refine aws_says (says_nil (t := 5) (o := 900) (ty := 3) (es := 1) rfl rfl (by decide)) ?_
  refine aws_loopS [5, 6, 7, 8, 9, 10, 11, 12, 13, 14, 15, 16, 17, 18, 19, 20, 21, 22, 23, 24, 25, 26, 27, 28, 29, 30, 31, 32, 33, 34, 35] [900] (fun (x : Nat × Nat × List Int) => [(5, .o (.osl 900 x.2.1 1 0 x.2.2.length)), (6, .p (.i x.1))]) (fun x => [(900, (x.2.1 + 1, some (.buf 3 1 (x.2.2.map fun n => [PVal.i n]))))])
    (fun x => x.1 ≤ l.length ∧ x.2.2 = seenTo l ds x.1) (fun x => l.length - x.1) (0, 0, []) ⟨Nat.zero_le _, rfl⟩ (by exact knA) (by exact knA) ?_
  rintro ⟨i, g, out⟩ β γ ⟨hi, hout⟩
  simp only at hi hout
  have hol : out.length ≤ i := by rw [hout]; exact seenTo_len i
  dsimp only
  repeat' (first
      | refine rn_nil ?_
      | refine rnA ?_
      | refine rnS ?_
      | refine rnG ?_
      | ((fail_if_success (refine rnKn ?_)); refine rnP ?_ ?_ <;> (intro hq; try (have hq' := hq; simp only [hqs] at hq')))
      | refine rk_nil ?_
      | refine rkA ?_
      | refine rkF ?_
      | ((fail_if_success (refine rkKn ?_)); refine rkP ?_ ?_ <;> (intro hq; try (have hq' := hq; simp only [hqs] at hq')))
      | refine aws_seq ?_
      | refine aws_region ?_
      | refine aws_skip ?_
      | refine aws_exit ?_
      | refine aws_nil ?_
      | refine aws_blk_s ?_
      | refine aws_blk_r ?_
      | refine aws_blk_c ?_
      | refine blk_exit ?_
      | refine blk_normal ?_
      | refine blk_ret ?_
      | refine aws_ret ?_
      | refine ifT ?_
      | refine ifF ?_
      | (refine ifQ ?_ ?_ <;> (try (intro hn)))
      | (refine ifB ?_ ?_ <;> (intro hq; try (have hq' := hq; simp only [hqs] at hq'))))
  · refine aws_loopS [5, 7, 14, 15, 16, 17, 18, 19, 20, 21, 22, 23, 24, 25, 26, 27, 28, 29, 30, 31, 32, 33, 34, 35] [900] (fun (k : Nat) => [(5, .o (.osl 900 g 1 0 out.length)), (7, .p (.i k))]) (fun k => [(900, (g + 1, some (.buf 3 1 (out.map fun n => [PVal.i n]))))])
      (fun k => k ≤ ds.length ∧ hit l.length (ds.take k) i = false) (fun k => ds.length - k) 0 ⟨Nat.zero_le _, by simp [hit]⟩ (by exact knA) (by exact knA) ?_
    rintro k β' γ' ⟨hk, hno⟩
    have hdi := hd.getD (k : Int).toNat
    have hmod := mod_in (ds.getD (k : Int).toNat default) l.length
    repeat' (first
        | refine rn_nil ?_
        | refine rnA ?_
        | refine rnS ?_
        | refine rnG ?_
        | ((fail_if_success (refine rnKn ?_)); refine rnP ?_ ?_ <;> (intro hq; try (have hq' := hq; simp only [hqs] at hq')))
        | refine rk_nil ?_
        | refine rkA ?_
        | refine rkF ?_
        | ((fail_if_success (refine rkKn ?_)); refine rkP ?_ ?_ <;> (intro hq; try (have hq' := hq; simp only [hqs] at hq')))
        | refine aws_seq ?_
        | refine aws_region ?_
        | refine aws_skip ?_
        | refine aws_exit ?_
        | refine aws_nil ?_
        | refine aws_blk_s ?_
        | refine aws_blk_r ?_
        | refine aws_blk_c ?_
        | refine blk_exit ?_
        | refine blk_normal ?_
        | refine blk_ret ?_
        | refine aws_ret ?_
        | refine ifT ?_
        | refine ifF ?_
        | (refine ifQ ?_ ?_ <;> (try (intro hn)))
        | (refine ifB ?_ ?_ <;> (intro hq; try (have hq' := hq; simp only [hqs] at hq'))))
    · refine ⟨(i + 1, g + 1, out ++ [l.getD (i : Int).toNat default]), _, by dsimp only; omega, ⟨by dsimp only; omega, ?_⟩, .refl, by exact frA⟩
      have : hit l.length ds i = true := by
        simp only [Int.toNat_natCast] at hq'
        exact List.any_eq_true.2 ⟨ds.getD k default, getD_mem (by omega), decide_eq_true hq'⟩
      dsimp only
      rw [hout, seenTo_succ, if_pos this, Int.toNat_natCast]
    · refine ⟨k + 1, _, by omega, ⟨by omega, ?_⟩, .refl, by exact frA⟩
      simp only [Int.toNat_natCast] at hq'
      rw [take_snocD (by omega), hit_snoc, hno]; simpa using hq'
    · refine ⟨(i + 1, g, out), _, by dsimp only; omega, ⟨by dsimp only; omega, ?_⟩, .refl, by exact frA⟩
      have : hit l.length ds i = false := by rw [List.take_of_length_le (by omega)] at hno; exact hno
      dsimp only
      rw [hout, seenTo_succ, this]; simp
  · refine rt1 rfl rfl (.one (finC_map rfl rfl rfl rfl)) (rs ?_)
    rw [hout, show i = l.length by omega]; rfl
instance {l ds : List Int} {ex ey : Bool} : PC Try.prog 32 [ints l ex, u64s ds ey] ((l.length ≤ 1000000000 ∧ ds.length ≤ 1000000000) ∧ u64ok ds) (ints (seenF l ds) false) := ⟨fun h => rseen_c l ds ex ey h.1 h.2⟩
end Go.Proofs.Ytbhcdkhejgkhaaa.Dr
