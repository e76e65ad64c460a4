/- trees, the reference: what an inner place's digest is made of -/
import Derived.Test.YtpamepepibnlfaaTr8
import Derived.Test.YtpamepepibnlfaaTr6
namespace Go.Proofs.Ytpamepepibnlfaa.Tr
open Go Go.RowKit Go.Aw Go.Aw.Sha Go.Aw.Tree Go.Proofs.Ytpamepepibnlfaa.Sh
set_option linter.unusedVariables false
set_option linter.unusedSimpArgs false
set_option maxRecDepth 8000
set_option maxHeartbeats 4000000
attribute [local irreducible] sum

theorem rbelow_c (T : List Nat) (p : Int) (hT : T.length = 672) : PCall Try.prog 50 [tv T, .p (.i p)] (bytesN (belowF T p) false) := by
  refine pcall_of Try.func50 rfl (fun w0 F S0 M0 => ?_)
  by_cases hp : 0 ≤ p ∧ p ≤ 4
  · have hkl : (kidsF p).length = 4 := by rw [kidsF_in hp]; rfl
    have hne : decide (((kidsF p).length : Int) = 0) = false := by rw [hkl]; rfl
    rw [belowF_in hp]
    repeat' (first
        | refine rnO ?_
        | refine rnSB ?_
        | refine rnG ?_
        | refine rnU ?_
        | ((fail_if_success (refine rnKn ?_)); refine rnP ?_ ?_ <;> (intro hq; try (have hq' := hq; simp only [hqs] at hq')))
        | refine rkO ?_
        | refine rkSB ?_
        | refine rkF ?_
        | refine rkU ?_
        | ((fail_if_success (refine rkKn ?_)); refine rkP ?_ ?_ <;> (intro hq; try (have hq' := hq; simp only [hqs] at hq')))
        | refine stp ?_
        | refine ifT ?_
        | refine ifF ?_
        | (refine ifQ ?_ ?_ <;> (try (intro hn)))
        | (refine ifB ?_ ?_ <;> (intro hq; try (have hq' := hq; simp only [hqs] at hq'))))
    refine aws_loopS (8 :: [6, 7, 8, 15, 16, 17, 18, 19, 20, 21, 22, 23, 24, 25, 26, 27]) [8, 14] (fun (x : Nat × Nat × Option MO × Nat × List Nat) => [(6, .o (.osl 14 x.2.2.2.1 1 0 x.2.2.2.2.length)), (7, .p (.i x.1))]) (fun x => [(8, (x.2.1, x.2.2.1)), (14, (x.2.2.2.1 + 1, some (.buf 5 1 (x.2.2.2.2.map br))))])
      (fun x => x.1 ≤ 4 ∧ x.2.2.2.2 = belowTo T p x.1) (fun x => 4 - x.1) (0, 0, none, 0, belowTo T p 0) ⟨Nat.zero_le _, rfl⟩ (by exact knA) (by exact knA) ?_
    rintro ⟨i, g8, c8, g, out⟩ β γ ⟨hi, hout⟩
    simp only at hi hout
    have hol : out.length = 1 + 32 * i := by rw [hout]; exact belowTo_len hT hp i hi
    dsimp only
    by_cases hi4 : i < 4
    · have hk : (kidsF p).getD ((i : Nat) : Int).toNat default = 4 * p + 1 + i := by rw [Int.toNat_natCast]; exact kidsF_get hp hi4
      have hlt : decide ((i : Int) < 4) = true := decide_eq_true (by omega)
      have hrl : (row T (4 * p + 1 + i).toNat).length = 32 := row_len hT (by omega)
      have hrl' : (rowOf 32 T ((kidsF p).getD ((i : Nat) : Int).toNat default).toNat).length = 32 := by rw [hk]; exact hrl
      repeat' (first
          | refine rnB ?_
          | refine rnSB ?_
          | refine rnG ?_
          | refine rnU ?_
          | ((fail_if_success (refine rnKn ?_)); refine rnP ?_ ?_ <;> (intro hq; try (have hq' := hq; simp only [hqs] at hq')))
          | refine rkB ?_
          | refine rkSB ?_
          | refine rkF ?_
          | refine rkU ?_
          | ((fail_if_success (refine rkKn ?_)); refine rkP ?_ ?_ <;> (intro hq; try (have hq' := hq; simp only [hqs] at hq')))
          | refine stp ?_
          | refine ifT ?_
          | refine ifF ?_
          | (refine ifQ ?_ ?_ <;> (try (intro hn)))
          | (refine ifB ?_ ?_ <;> (intro hq; try (have hq' := hq; simp only [hqs] at hq'))))
      refine ⟨(i + 1, g8 + 1, some (.box 38 ((rowOf 32 T ((kidsF p).getD ((i : Nat) : Int).toNat default).toNat).map bc)), g + 1, out ++ rowOf 32 T ((kidsF p).getD ((i : Nat) : Int).toNat default).toNat), _, by dsimp only; omega, ⟨by dsimp only; omega, ?_⟩, .refl, by exact frA⟩
      dsimp only
      rw [hk, hout]; rfl
    · have hlt : decide ((i : Int) < 4) = false := decide_eq_false (by omega)
      repeat' (first
          | refine rnB ?_
          | refine rnSB ?_
          | refine rnG ?_
          | refine rnU ?_
          | ((fail_if_success (refine rnKn ?_)); refine rnP ?_ ?_ <;> (intro hq; try (have hq' := hq; simp only [hqs] at hq')))
          | refine rkB ?_
          | refine rkSB ?_
          | refine rkF ?_
          | refine rkU ?_
          | ((fail_if_success (refine rkKn ?_)); refine rkP ?_ ?_ <;> (intro hq; try (have hq' := hq; simp only [hqs] at hq')))
          | refine stp ?_
          | refine ifT ?_
          | refine ifF ?_
          | (refine ifQ ?_ ?_ <;> (try (intro hn)))
          | (refine ifB ?_ ?_ <;> (intro hq; try (have hq' := hq; simp only [hqs] at hq'))))
      refine rt1 rfl rfl (.one (finC_map rfl rfl rfl rfl)) (rs ?_)
      rw [hout, show i = 4 by omega]
  · have hne : decide (((kidsF p).length : Int) = 0) = true := by rw [kidsF_out hp]; rfl
    rw [belowF_out hp]
    repeat' (first
        | refine rnB ?_
        | refine rnSB ?_
        | refine rnG ?_
        | refine rnU ?_
        | ((fail_if_success (refine rnKn ?_)); refine rnP ?_ ?_ <;> (intro hq; try (have hq' := hq; simp only [hqs] at hq')))
        | refine rkB ?_
        | refine rkSB ?_
        | refine rkF ?_
        | refine rkU ?_
        | ((fail_if_success (refine rkKn ?_)); refine rkP ?_ ?_ <;> (intro hq; try (have hq' := hq; simp only [hqs] at hq')))
        | refine stp ?_
        | refine ifT ?_
        | refine ifF ?_
        | (refine ifQ ?_ ?_ <;> (try (intro hn)))
        | (refine ifB ?_ ?_ <;> (intro hq; try (have hq' := hq; simp only [hqs] at hq'))))
    exact rt1 rfl rfl (.one .nil) rfl
instance {T : List Nat} {p : Int} : PC Try.prog 50 [tv T, .p (.i p)] (T.length = 672) (bytesN (belowF T p) false) := ⟨rbelow_c T p⟩
end Go.Proofs.Ytpamepepibnlfaa.Tr
