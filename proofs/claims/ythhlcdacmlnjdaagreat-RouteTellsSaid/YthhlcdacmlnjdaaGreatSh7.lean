/- SHA-256, the program's: the sum. -/
import Derived.Test.YthhlcdacmlnjdaaGreatSh6
import Derived.Test.YthhlcdacmlnjdaaGreatKe
namespace Go.Proofs.YthhlcdacmlnjdaaGreat.Sh
open Go Go.RowKit Go.Aw Go.Aw.Sha
set_option linter.unusedVariables false
set_option linter.unusedSimpArgs false
set_option maxRecDepth 8000

theorem pad_len (b : List Nat) : (pad b).length = b.length + 1 + zeros b.length + 8 := by simp [pad, lenBytes]; omega
theorem pad_64 (b : List Nat) : (pad b).length = 64 * ((pad b).length / 64) := by rw [pad_len]; unfold zeros; omega
theorem blocks_succ (P : List Nat) (j : Nat) : blocks P (j + 1) = block (blocks P j) (chunkAt P 64 j) := rfl
theorem blocks_zero (P : List Nat) : firstV = blocks P 0 := rfl
theorem sum_def (b : List Nat) : sum b = digest (blocks (pad b) ((pad b).length / 64)) := rfl
theorem Agr.put' {σ τ : St} {W M : List Nat} {o : Nat} {m : Nat × Option MO} (h : Agr σ W (o :: M) τ) : Agr (σ.put o m) W M (τ.put o m) := ⟨h.env, fun t ht => by
  by_cases e : t = o
  · subst e; simp [St.put]
  · have hb : Nat.beq t o = false := Bool.eq_false_iff.2 (fun k => e (Nat.eq_of_beq_eq_true k))
    have := h.mem t (by simp only [memb, hb, ht, Bool.or_self])
    simp [St.put, e, this]⟩
attribute [local irreducible] pad blocks block sum
theorem sum_c (ls : List (List Nat × Bool)) (ex : Bool) (h : (ls.flatMap (·.1)).length ≤ 500000000 ∧ ls.length ≤ 1000000000) :
    PCall Tryz.prog 77 [pieces ls ex] (.a ((sum (ls.flatMap (·.1))).map bc)) := by
  refine pcall_of Tryz.func77 rfl (fun w0 F S0 M0 => ?_)
  have hp : (pad (ls.flatMap (·.1))).length ≤ 1000000000 := by rw [pad_len]; unfold zeros; omega
  have hp64 := pad_64 (ls.flatMap (·.1))
  have hsum : sum (ls.flatMap (·.1)) = digest (blocks (pad (ls.flatMap (·.1))) ((pad (ls.flatMap (·.1))).length / 64)) := sum_def _
  repeat' (first
      | refine rnA ?_
      | refine rnS ?_
      | refine rnG ?_
      | refine rnU ?_
      | ((fail_if_success (refine rnKn ?_)); refine rnP ?_ ?_ <;> (intro hq; try (have hq' := hq; simp only [hqs] at hq')))
      | refine rkA ?_
      | refine rkS ?_
      | refine rkF ?_
      | refine rkU ?_
      | ((fail_if_success (refine rkKn ?_)); refine rkP ?_ ?_ <;> (intro hq; try (have hq' := hq; simp only [hqs] at hq')))
      | refine stp ?_
      | refine ifT ?_
      | refine ifF ?_
      | (refine ifQ ?_ ?_ <;> (try (intro hn)))
      | (refine ifB ?_ ?_ <;> (intro hq; try (have hq' := hq; simp only [hqs] at hq'))))
  generalize hP : pad (ls.flatMap (·.1)) = P at hp hp64 hsum ⊢
  refine aws_block ?_
  refine aws_range (ι := V8) [9, 4, 10, 11, 12] [3] (fun v => [(3, (1, some (.box 129 (v8 v))))]) (fun j v => v = blocks P j) firstV rfl inferInstance (chunks_c P false (P.length / 64) hp64 hp) rfl ?_ rfl rfl (fun i => rfl) rfl (blocks_zero P) (by exact knA) ?_ ?_
  · intro x hx
    simp only [List.mem_map] at hx
    obtain ⟨i, _, rfl⟩ := hx
    exact inferInstance
  · intro j x hjx v γ w0 F S0 M0 l R R' hv
    rw [List.getElem?_map] at hjx
    have hj : j < P.length / 64 := by
      by_cases hlt : j < P.length / 64
      · exact hlt
      · rw [List.getElem?_eq_none (by simp; omega)] at hjx; cases hjx
    rw [List.getElem?_range hj] at hjx
    obtain rfl := Option.some.inj hjx
    have hcl : (chunkAt P 64 j).length = 64 := by simp only [chunkAt, List.length_take, List.length_drop]; omega
    have hvo : v.ok := by rw [hv]; exact blocks_ok P j
    obtain ⟨B, hB⟩ : ∃ B, B = block v (chunkAt P 64 j) := ⟨_, rfl⟩
    have hbc : PCall Tryz.prog 89 [.a (v8 v), bytesN (chunkAt P 64 j) true] (.a (v8 B)) := by rw [hB]; exact block_c v _ true hcl hvo
    haveI : PC Tryz.prog 89 [.a (v8 v), bytesN (chunkAt P 64 j) true] True (.a (v8 B)) := ⟨fun _ => hbc⟩
    repeat' (first
        | refine rnA ?_
        | refine rnS ?_
        | refine rnG ?_
        | refine rnU ?_
        | ((fail_if_success (refine rnKn ?_)); refine rnP ?_ ?_ <;> (intro hq; try (have hq' := hq; simp only [hqs] at hq')))
        | refine rkA ?_
        | refine rkS ?_
        | refine rkF ?_
        | refine rkU ?_
        | ((fail_if_success (refine rkKn ?_)); refine rkP ?_ ?_ <;> (intro hq; try (have hq' := hq; simp only [hqs] at hq')))
        | refine stp ?_
        | refine ifT ?_
        | refine ifF ?_
        | (refine ifQ ?_ ?_ <;> (try (intro hn)))
        | (refine ifB ?_ ?_ <;> (intro hq; try (have hq' := hq; simp only [hqs] at hq'))))
    refine ⟨rfl, rfl, ?_⟩
    repeat' (first
        | refine rnA ?_
        | refine rnS ?_
        | refine rnG ?_
        | refine rnU ?_
        | ((fail_if_success (refine rnKn ?_)); refine rnP ?_ ?_ <;> (intro hq; try (have hq' := hq; simp only [hqs] at hq')))
        | refine rkA ?_
        | refine rkS ?_
        | refine rkF ?_
        | refine rkU ?_
        | ((fail_if_success (refine rkKn ?_)); refine rkP ?_ ?_ <;> (intro hq; try (have hq' := hq; simp only [hqs] at hq')))
        | refine stp ?_
        | refine ifT ?_
        | refine ifF ?_
        | (refine ifQ ?_ ?_ <;> (try (intro hn)))
        | (refine ifB ?_ ?_ <;> (intro hq; try (have hq' := hq; simp only [hqs] at hq'))))
    refine ⟨rfl, B, _, ?_, .refl, Fr'.mk ?_ (by exact knA) (by exact knA)⟩
    rotate_left 1
    · repeat' (first | exact Agr.refl | refine Agr.appg rfl rfl ?_ | refine Agr.appgn rfl ?_ | refine Agr.set rfl ?_ | refine Agr.put rfl ?_ | refine Agr.put' ?_ | refine Agr.fr ?_ (memb_sub rfl) (memb_sub rfl) rfl rfl)
    · show B = blocks P (j + 1)
      rw [blocks_succ, ← hv, hB]
  · intro v γ hv
    simp only [List.length_map, List.length_range] at hv
    repeat' (first
        | refine rnA ?_
        | refine rnS ?_
        | refine rnG ?_
        | refine rnU ?_
        | ((fail_if_success (refine rnKn ?_)); refine rnP ?_ ?_ <;> (intro hq; try (have hq' := hq; simp only [hqs] at hq')))
        | refine rkA ?_
        | refine rkS ?_
        | refine rkF ?_
        | refine rkU ?_
        | ((fail_if_success (refine rkKn ?_)); refine rkP ?_ ?_ <;> (intro hq; try (have hq' := hq; simp only [hqs] at hq')))
        | refine stp ?_
        | refine ifT ?_
        | refine ifF ?_
        | (refine ifQ ?_ ?_ <;> (try (intro hn)))
        | (refine ifB ?_ ?_ <;> (intro hq; try (have hq' := hq; simp only [hqs] at hq'))))
    refine rc1 rfl rfl rfl rfl rfl (by simp [digest]) finL_p ?_
    rw [hsum, ← hv]
instance {ls : List (List Nat × Bool)} {ex : Bool} : PC Tryz.prog 77 [pieces ls ex] ((ls.flatMap (·.1)).length ≤ 500000000 ∧ ls.length ≤ 1000000000) (.a ((sum (ls.flatMap (·.1))).map bc)) := ⟨sum_c ls ex⟩
end Go.Proofs.YthhlcdacmlnjdaaGreat.Sh
