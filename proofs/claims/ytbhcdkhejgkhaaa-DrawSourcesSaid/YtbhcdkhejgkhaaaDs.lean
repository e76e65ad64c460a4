/- Chapter 25 (draw): Deal. -/
import Derived.Test.YtbhcdkhejgkhaaaDr
namespace Go.Proofs.Ytbhcdkhejgkhaaa.Dr
open Go Go.RowKit Go.Aw
set_option linter.unusedVariables false
set_option linter.unusedSimpArgs false
set_option maxRecDepth 4000

def dealF : List Int → List Int → List Int → List Int
  | out, rest, [] => out ++ rest
  | out, rest, d :: ds => if rest.length = 0 then out ++ rest else dealF (out ++ [rest.getD (d % rest.length).toNat default]) (rest.take (d % rest.length).toNat ++ rest.drop (d % rest.length + 1).toNat) ds
theorem drop_cons_getD {l : List Int} {i : Nat} (h : i < l.length) : l.drop i = l.getD i default :: l.drop (i + 1) := by
  rw [List.drop_eq_getElem_cons h, List.getD_eq_getElem?_getD, List.getElem?_eq_getElem h]; rfl

theorem deal_c (l ds : List Int) (ex ey : Bool) (h : l.length ≤ 1000000000 ∧ ds.length ≤ 1000000000) (hd : u64ok ds) : PCall Try.prog 28 [ints l ex, u64s ds ey] (ints (dealF [] l ds) false) := by
  refine pcall_of Try.func28 rfl (fun w0 F S0 M0 => ?_)
  repeat' (first
      | refine rnA ?_
      | refine rnS ?_
      | refine rnG ?_
      | refine rnU ?_
      | ((fail_if_success (refine rnKn ?_)); refine rnP ?_ ?_ <;> (intro hq; try (have hq' := hq; simp only [hqs] at hq')))
      | refine rkA ?_
      | refine rkS ?_
      | refine rkF ?_
      | refine rkU ?_
      | ((fail_if_success (refine rkKn ?_)); refine rkP ?_ ?_ <;> (intro hq; try (have hq' := hq; simp only [hqs] at hq')))
      | refine stp ?_
      | refine aws_draws [] mixed (by kernel_rfl) ?_
      | refine ifT ?_
      | refine ifF ?_
      | (refine ifQ ?_ ?_ <;> (try (intro hn)))
      | (refine ifB ?_ ?_ <;> (intro hq; try (have hq' := hq; simp only [hqs] at hq'))))
  refine aws_says (says_nil (t := 5) (o := 900) (ty := 3) (es := 1) rfl rfl (by decide)) ?_
  refine aws_says (says_inex (t := 6) rfl) ?_
  refine aws_loopF [5, 6, 8, 9, 18, 19, 20, 21, 22, 23, 24, 25, 26, 27, 28, 29, 30, 31, 32, 33, 34, 35, 36, 37, 38, 39, 40, 41, 42, 43, 44, 45] [900] (fun (x : Nat × Nat × List Int × List Int) => [(5, .o (.osl 900 x.2.1 1 0 x.2.2.1.length)), (6, .p (.sl 1 (x.2.2.2.map fun n => [PVal.i n]) false)), (18, .p (.i x.1))]) (fun x => [(900, (x.2.1 + 1, some (.buf 3 1 (x.2.2.1.map fun n => [PVal.i n]))))])
    (fun x => x.1 ≤ ds.length ∧ x.2.2.1.length + x.2.2.2.length = l.length ∧ dealF x.2.2.1 x.2.2.2 (ds.drop x.1) = dealF [] l ds) (fun x => ds.length - x.1) (0, 0, [], l.take (l.length : Int).toNat) ⟨Nat.zero_le _, by simp, by simp⟩ (by exact knA) (by exact knA) ?_
  · rintro ⟨i, g, out, rest⟩ β γ ⟨hi, hlen, hpre⟩
    have hdi := hd.getD (i : Int).toNat
    have hmod := mod_in (ds.getD (i : Int).toNat default) rest.length
    simp only at hi hlen hpre
    dsimp only
    repeat' (first
        | refine rnA ?_
        | refine rnS ?_
        | refine rnG ?_
        | refine rnU ?_
        | ((fail_if_success (refine rnKn ?_)); refine rnP ?_ ?_ <;> (intro hq; try (have hq' := hq; simp only [hqs] at hq')))
        | refine rkA ?_
        | refine rkS ?_
        | refine rkF ?_
        | refine rkU ?_
        | ((fail_if_success (refine rkKn ?_)); refine rkP ?_ ?_ <;> (intro hq; try (have hq' := hq; simp only [hqs] at hq')))
        | refine stp ?_
        | refine aws_draws [] mixed (by kernel_rfl) ?_
        | refine ifT ?_
        | refine ifF ?_
        | (refine ifQ ?_ ?_ <;> (try (intro hn)))
        | (refine ifB ?_ ?_ <;> (intro hq; try (have hq' := hq; simp only [hqs] at hq'))))
    · refine rt1 rfl rfl (.one (finC_map rfl rfl rfl rfl)) (rs ?_)
      rw [← hpre, drop_cons_getD (by omega), dealF, if_pos (by omega)]
    · refine ⟨(i + 1, g + 1, out ++ [rest.getD (ds.getD (i : Int).toNat default % rest.length).toNat default], rest.take (ds.getD (i : Int).toNat default % rest.length).toNat ++ rest.drop (ds.getD (i : Int).toNat default % rest.length + 1).toNat), by dsimp only; omega, ⟨by dsimp only; omega, ?_, ?_⟩, ?_⟩
      · simp only [List.length_append, List.length_cons, List.length_nil, List.length_take, List.length_drop]; omega
      · dsimp only
        rw [← hpre, drop_cons_getD (i := i) (by omega), dealF, if_neg (by omega)]
        simp only [Int.toNat_natCast]
      · exact frA
    · refine rt1 rfl rfl (.one (finC_map rfl rfl rfl rfl)) (rs ?_)
      rw [← hpre, List.drop_of_length_le (by omega), dealF]
instance {l ds : List Int} {ex ey : Bool} : PC Try.prog 28 [ints l ex, u64s ds ey] ((l.length ≤ 1000000000 ∧ ds.length ≤ 1000000000) ∧ u64ok ds) (ints (dealF [] l ds) false) := ⟨fun h => deal_c l ds ex ey h.1 h.2⟩
end Go.Proofs.Ytbhcdkhejgkhaaa.Dr
