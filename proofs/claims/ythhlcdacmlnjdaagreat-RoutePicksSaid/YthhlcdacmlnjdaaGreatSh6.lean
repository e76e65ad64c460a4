/- SHA-256, the program's: the blocks, one behind the other. -/
import Derived.Test.YthhlcdacmlnjdaaGreatSh5
namespace Go.Proofs.YthhlcdacmlnjdaaGreat.Sh
open Go Go.RowKit Go.Aw Go.Aw.Sha
set_option linter.unusedVariables false
set_option linter.unusedSimpArgs false
set_option maxRecDepth 8000

abbrev bytesP (l : List Nat) (ex : Bool) : PVal := .sl 1 (l.map br) ex
theorem chunk_c (b : List Nat) (ex : Bool) (n : Int) (h : 1 ≤ n) : PCall Tryz.prog 87 [bytesN b ex, .p (.i n)] (.p (.fnv 109 [.bx [bytesP b ex] 0, .bx [.i n] 0])) := by
  refine pcall_of Tryz.func87 rfl (fun w0 F S0 M0 => ?_)
  repeat' (first
      | refine rnA ?_
      | refine rnS ?_
      | refine rnG ?_
      | refine rnU ?_
      | ((fail_if_success (refine rnKn ?_)); refine rnP ?_ ?_ <;> (intro hq; try (have hq' := hq; simp only [hqs] at hq')))
      | refine rkA ?_
      | refine rkS ?_
      | refine rkF ?_
      | refine rkU ?_
      | ((fail_if_success (refine rkKn ?_)); refine rkP ?_ ?_ <;> (intro hq; try (have hq' := hq; simp only [hqs] at hq')))
      | refine stp ?_
      | refine ifT ?_
      | refine ifF ?_
      | (refine ifQ ?_ ?_ <;> (try (intro hn)))
      | (refine ifB ?_ ?_ <;> (intro hq; try (have hq' := hq; simp only [hqs] at hq'))))
  · exfalso; omega
  · exact rt1 rfl rfl finS_p rfl
instance {b : List Nat} {ex : Bool} {n : Int} : PC Tryz.prog 87 [bytesN b ex, .p (.i n)] (1 ≤ n) (.p (.fnv 109 [.bx [bytesP b ex] 0, .bx [.i n] 0])) := ⟨chunk_c b ex n⟩

/-- the blocks of a text, n bytes each, the last one maybe less -/
def chunkAt (b : List Nat) (n i : Nat) : List Nat := (b.drop (n * i)).take n
set_option maxHeartbeats 1000000 in
theorem chunks_c (b : List Nat) (ex : Bool) (m : Nat) (h : b.length = 64 * m) (hb : b.length ≤ 1000000000) : ICall Tryz.prog 109 [.bx [bytesP b ex] 0, .bx [.i 64] 0] ((List.range m).map fun i => bytesN (chunkAt b 64 i) true) := by
  refine icall_of Tryz.func109 rfl (fun w0 F S0 M0 I yv hone hY => ?_)
  simp only [List.length_map, List.length_range]
  repeat' (first
      | refine rnA ?_
      | refine rnS ?_
      | refine rnG ?_
      | refine rnU ?_
      | ((fail_if_success (refine rnKn ?_)); refine rnP ?_ ?_ <;> (intro hq; try (have hq' := hq; simp only [hqs] at hq')))
      | refine rkA ?_
      | refine rkS ?_
      | refine rkF ?_
      | refine rkU ?_
      | ((fail_if_success (refine rkKn ?_)); refine rkP ?_ ?_ <;> (intro hq; try (have hq' := hq; simp only [hqs] at hq')))
      | refine stp ?_
      | refine ifT ?_
      | refine ifF ?_
      | (refine ifQ ?_ ?_ <;> (try (intro hn)))
      | (refine ifB ?_ ?_ <;> (intro hq; try (have hq' := hq; simp only [hqs] at hq'))))
  refine aws_loopS [4, 5, 6, 7, 8, 9, 10, 11, 12, 13, 14, 15, 16, 17, 18, 19, 20, 21, 22, 23, 24, 25, 26, 27, 28, 29, 30] [1000] (fun (x : Nat × Int) => [(4, .p (.i x.2))]) (fun x => [(1000, (1, some (.abs (I x.1))))])
    (fun x => x.1 ≤ m ∧ x.2 = 64 * (x.1 : Int)) (fun x => m - x.1) (0, 0) ⟨Nat.zero_le _, rfl⟩ (by exact knA) (by exact knA) ?_
  rintro ⟨i, t⟩ β γ ⟨hi, ht⟩
  simp only at hi ht
  dsimp only
  repeat' (first
      | refine rnA ?_
      | refine rnS ?_
      | refine rnG ?_
      | refine rnU ?_
      | ((fail_if_success (refine rnKn ?_)); refine rnP ?_ ?_ <;> (intro hq; try (have hq' := hq; simp only [hqs] at hq')))
      | refine rkA ?_
      | refine rkS ?_
      | refine rkF ?_
      | refine rkU ?_
      | ((fail_if_success (refine rkKn ?_)); refine rkP ?_ ?_ <;> (intro hq; try (have hq' := hq; simp only [hqs] at hq')))
      | refine stp ?_
      | refine ifT ?_
      | refine ifF ?_
      | (refine ifQ ?_ ?_ <;> (try (intro hn)))
      | (refine ifB ?_ ?_ <;> (intro hq; try (have hq' := hq; simp only [hqs] at hq'))))
  · have him : i < m := by omega
    have hdl : (b.drop t.toNat).length = 64 * (m - i) := by rw [List.length_drop, h]; omega
    refine aws_draws [] mixed (by kernel_rfl) ?_
    repeat' (first
        | refine rk_nil ?_
        | refine rkA ?_
        | refine rkS ?_
        | refine rkF ?_
        | refine rkU ?_
        | ((fail_if_success (refine rkKn ?_)); refine rkP ?_ ?_ <;> (intro hq; try (have hq' := hq; simp only [hqs] at hq'))))
    repeat' (first
        | refine rnA ?_
        | refine rnS ?_
        | refine rnG ?_
        | refine rnU ?_
        | ((fail_if_success (refine rnKn ?_)); refine rnP ?_ ?_ <;> (intro hq; try (have hq' := hq; simp only [hqs] at hq')))
        | refine rkA ?_
        | refine rkS ?_
        | refine rkF ?_
        | refine rkU ?_
        | ((fail_if_success (refine rkKn ?_)); refine rkP ?_ ?_ <;> (intro hq; try (have hq' := hq; simp only [hqs] at hq')))
        | refine stp ?_
        | refine ifT ?_
        | refine ifF ?_
        | (refine ifQ ?_ ?_ <;> (try (intro hn)))
        | (refine ifB ?_ ?_ <;> (intro hq; try (have hq' := hq; simp only [hqs] at hq'))))
    refine rn_any (gd_n rfl rfl) rfl (lop_yield (av := bytesN (chunkAt b 64 i) true) (m0 := (1, some (.abs (I i)))) (m1 := (1, some (.abs (I (i + 1))))) rfl rfl (rs ?_) rfl (hY i _ (by simp [him])) rfl) ?_
    · show _ = (b.drop (64 * i)).take 64
      rw [show t.toNat = 64 * i by omega] at hdl ⊢
      congr 1
      simp only [hdl] at *
      omega
    repeat' (first
        | refine rnA ?_
        | refine rnS ?_
        | refine rnG ?_
        | refine rnU ?_
        | ((fail_if_success (refine rnKn ?_)); refine rnP ?_ ?_ <;> (intro hq; try (have hq' := hq; simp only [hqs] at hq')))
        | refine rkA ?_
        | refine rkS ?_
        | refine rkF ?_
        | refine rkU ?_
        | ((fail_if_success (refine rkKn ?_)); refine rkP ?_ ?_ <;> (intro hq; try (have hq' := hq; simp only [hqs] at hq')))
        | refine stp ?_
        | refine ifT ?_
        | refine ifF ?_
        | (refine ifQ ?_ ?_ <;> (try (intro hn)))
        | (refine ifB ?_ ?_ <;> (intro hq; try (have hq' := hq; simp only [hqs] at hq'))))
    apply ex2 (i + 1)
    apply Exists.intro
    refine ⟨?_, ⟨?_, ?_⟩, .refl, ?_⟩
    rotate_left 3
    (focus exact frA)
    · dsimp only; omega
    · dsimp only; omega
    · dsimp only; omega
  · have him : i = m := by omega
    subst him
    show RetO _ _ _ _ _ .ret _
    exact RetO.mk (res0 rfl rfl) ⟨.abs, trivial⟩
instance {b : List Nat} {ex : Bool} : IC Tryz.prog 109 [.bx [bytesP b ex] 0, .bx [.i 64] 0] (b.length = 64 * (b.length / 64) ∧ b.length ≤ 1000000000) ((List.range (b.length / 64)).map fun i => bytesN (chunkAt b 64 i) true) := ⟨fun h => chunks_c b ex _ h.1 h.2⟩
end Go.Proofs.YthhlcdacmlnjdaaGreat.Sh
