/- Chapter 25 (draw): Seen. -/
import Derived.Test.YtbhcdkhejgkhaaaDr
namespace Go.Proofs.Ytbhcdkhejgkhaaa.Dr
open Go Go.RowKit Go.Aw
set_option linter.unusedVariables false
set_option linter.unusedSimpArgs false
set_option maxRecDepth 4000

/-- does one of these draws pick that place? -/
def hit (n : Nat) (ds : List Int) (i : Nat) : Bool := ds.any fun d => decide (d % (n : Int) = (i : Int))
def seenTo (l ds : List Int) (k : Nat) : List Int := ((List.range k).filter (hit l.length ds)).map fun i => l.getD i default
def seenF (l ds : List Int) : List Int := seenTo l ds l.length

theorem seenTo_succ {l ds : List Int} {i : Nat} : seenTo l ds (i + 1) = seenTo l ds i ++ if hit l.length ds i then [l.getD i default] else [] := by
  unfold seenTo
  rw [List.range_succ, List.filter_append, List.map_append]
  congr 1
  by_cases h : hit l.length ds i = true <;> simp [h]
theorem seenTo_len {l ds : List Int} (k : Nat) : (seenTo l ds k).length ≤ k := by
  unfold seenTo
  have := List.length_filter_le (hit l.length ds) (List.range k)
  simpa using this

theorem hit_snoc {n : Nat} {ds : List Int} {d : Int} {i : Nat} : hit n (ds ++ [d]) i = (hit n ds i || decide (d % (n : Int) = (i : Int))) := by simp [hit]
theorem hits_step {n : Nat} {ds : List Int} {d : Int} (h0 : 0 ≤ d % (n : Int)) (h1 : d % (n : Int) < n) :
    ((List.range n).map (hit n ds)).set (d % (n : Int)).toNat true = (List.range n).map (hit n (ds ++ [d])) := by
  apply List.ext_getElem
  · simp
  · intro i h2 h3
    simp only [List.length_set, List.length_map, List.length_range] at h2
    rw [List.getElem_set]
    simp only [List.getElem_map, List.getElem_range, hit_snoc]
    by_cases hi : (d % (n : Int)).toNat = i
    · rw [if_pos hi]
      have : d % (n : Int) = (i : Int) := by omega
      simp [this]
    · rw [if_neg hi]
      have : ¬ d % (n : Int) = (i : Int) := by omega
      simp [this]
theorem hit0 {n : Nat} {ds : List Int} : List.replicate (n : Int).toNat false = (List.range n).map (hit n (ds.take 0)) := by
  apply List.ext_getElem <;> simp [hit]
theorem take_snocD {l : List Int} {k : Nat} (h : k < l.length) : l.take (k + 1) = l.take k ++ [l.getD k default] := by
  rw [List.take_succ_eq_append_getElem h, List.getD_eq_getElem?_getD, List.getElem?_eq_getElem h]; rfl

theorem seen_c (l ds : List Int) (ex ey : Bool) (h : l.length ≤ 1000000000 ∧ ds.length ≤ 1000000000) (hd : u64ok ds) : PCall Try.prog 31 [ints l ex, u64s ds ey] (ints (seenF l ds) false) := by
  refine pcall_of Try.func31 rfl (fun w0 F S0 M0 => ?_)
  repeat' (first
      | refine rnA ?_
      | refine rnS ?_
      | refine rnG ?_
      | refine rnU ?_
      | ((fail_if_success (refine rnKn ?_)); refine rnP ?_ ?_ <;> (intro hq; try (have hq' := hq; simp only [hqs] at hq')))
      | refine rkA ?_
      | refine rkS ?_
      | refine rkF ?_
      | refine rkU ?_
      | ((fail_if_success (refine rkKn ?_)); refine rkP ?_ ?_ <;> (intro hq; try (have hq' := hq; simp only [hqs] at hq')))
      | refine stp ?_
      | refine aws_draws [] mixed (by kernel_rfl) ?_
      | refine ifT ?_
      | refine ifF ?_
      | (refine ifQ ?_ ?_ <;> (try (intro hn)))
      | (refine ifB ?_ ?_ <;> (intro hq; try (have hq' := hq; simp only [hqs] at hq'))))
  refine aws_loopF [7, 16, 17, 18, 19, 20, 21, 22, 23, 24, 25, 26, 27, 28, 29] [13] (fun (x : Nat × List Bool) => [(16, .p (.i x.1))]) (fun x => [(13, (1, some (.buf 4 1 (x.2.map fun b => [PVal.b b]))))])
    (fun x => x.1 ≤ ds.length ∧ x.2 = (List.range l.length).map (hit l.length (ds.take x.1))) (fun x => ds.length - x.1) (0, List.replicate (l.length : Int).toNat false) ⟨Nat.zero_le _, hit0⟩ (by exact knA) (by exact knA) ?_
  · rintro ⟨k, bs⟩ β γ ⟨hk, hbs⟩
    have hdi := hd.getD (k : Int).toNat
    have hmod := mod_in (ds.getD (k : Int).toNat default) l.length
    have hbl : bs.length = l.length := by simp at hbs; rw [hbs]; simp
    simp only at hk hbs
    dsimp only
    repeat' (first
        | refine rnA ?_
        | refine rnS ?_
        | refine rnG ?_
        | refine rnU ?_
        | ((fail_if_success (refine rnKn ?_)); refine rnP ?_ ?_ <;> (intro hq; try (have hq' := hq; simp only [hqs] at hq')))
        | refine rkA ?_
        | refine rkS ?_
        | refine rkF ?_
        | refine rkU ?_
        | ((fail_if_success (refine rkKn ?_)); refine rkP ?_ ?_ <;> (intro hq; try (have hq' := hq; simp only [hqs] at hq')))
        | refine stp ?_
        | refine aws_draws [] mixed (by kernel_rfl) ?_
        | refine ifT ?_
        | refine ifF ?_
        | (refine ifQ ?_ ?_ <;> (try (intro hn)))
        | (refine ifB ?_ ?_ <;> (intro hq; try (have hq' := hq; simp only [hqs] at hq'))))
    · refine ⟨(k + 1, bs.set (ds.getD (k : Int).toNat default % l.length).toNat true), by dsimp only; omega, ⟨by dsimp only; omega, ?_⟩, by exact frA⟩
      dsimp only
      rw [hbs, hits_step (by omega) (by omega), take_snocD (by omega), Int.toNat_natCast]
    · refine ⟨(k + 1, bs), by dsimp only; omega, ⟨by dsimp only; omega, ?_⟩, by exact frA⟩
      have h0 : l.length = 0 := by omega
      simp [hbs, h0]
    · have hk' : k = ds.length := by omega
      rw [hk', List.take_length] at hbs
      refine aws_says (says_nil (t := 8) (o := 900) (ty := 3) (es := 1) rfl rfl (by decide)) ?_
      refine aws_loopF [8, 9, 10, 32, 33, 34, 35, 36, 37, 38, 39, 40, 41, 42, 43, 44, 45] [900] (fun (x : Nat × Nat × List Int) => [(8, .o (.osl 900 x.2.1 1 0 x.2.2.length)), (32, .p (.i x.1))]) (fun x => [(900, (x.2.1 + 1, some (.buf 3 1 (x.2.2.map fun n => [PVal.i n]))))])
        (fun x => x.1 ≤ l.length ∧ x.2.2 = seenTo l ds x.1) (fun x => l.length - x.1) (0, 0, []) ⟨Nat.zero_le _, rfl⟩ (by exact knA) (by exact knA) ?_
      rintro ⟨i, g, out⟩ β' γ' ⟨hi, hout⟩
      simp only at hi hout
      have hol : out.length ≤ i := by rw [hout]; exact seenTo_len i
      dsimp only
      repeat' (first
          | refine rnA ?_
          | refine rnS ?_
          | refine rnG ?_
          | refine rnU ?_
          | ((fail_if_success (refine rnKn ?_)); refine rnP ?_ ?_ <;> (intro hq; try (have hq' := hq; simp only [hqs] at hq')))
          | refine rkA ?_
          | refine rkS ?_
          | refine rkF ?_
          | refine rkU ?_
          | ((fail_if_success (refine rkKn ?_)); refine rkP ?_ ?_ <;> (intro hq; try (have hq' := hq; simp only [hqs] at hq')))
          | refine stp ?_
          | refine aws_draws [] mixed (by kernel_rfl) ?_
          | refine ifT ?_
          | refine ifF ?_
          | (refine ifQ ?_ ?_ <;> (try (intro hn)))
          | (refine ifB ?_ ?_ <;> (intro hq; try (have hq' := hq; simp only [hqs] at hq'))))
      · refine ⟨(i + 1, g + 1, out ++ [l.getD (i : Int).toNat default]), by dsimp only; omega, ⟨by dsimp only; omega, ?_⟩, by exact frA⟩
        have : hit l.length ds i = true := by
          have := hq
          rw [hbs] at this
          simpa [List.getD_eq_getElem?_getD, show i < l.length by omega] using this
        dsimp only
        rw [hout, seenTo_succ, if_pos this, Int.toNat_natCast]
      · refine ⟨(i + 1, g, out), by dsimp only; omega, ⟨by dsimp only; omega, ?_⟩, by exact frA⟩
        have : hit l.length ds i = false := by
          have := hq
          rw [hbs] at this
          simpa [List.getD_eq_getElem?_getD, show i < l.length by omega] using this
        dsimp only
        rw [hout, seenTo_succ, this]; simp
      · refine rt1 rfl rfl (.one (finC_map rfl rfl rfl rfl)) (rs ?_)
        rw [hout, show i = l.length by omega]; rfl
instance {l ds : List Int} {ex ey : Bool} : PC Try.prog 31 [ints l ex, u64s ds ey] ((l.length ≤ 1000000000 ∧ ds.length ≤ 1000000000) ∧ u64ok ds) (ints (seenF l ds) false) := ⟨fun h => seen_c l ds ex ey h.1 h.2⟩
end Go.Proofs.Ytbhcdkhejgkhaaa.Dr
