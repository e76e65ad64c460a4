/- trees, the reference: a leaf's digest; all inner digests anew -/
import Derived.Test.YtpamepepibnlfaaTrD
import Derived.Test.YtpamepepibnlfaaRs5
namespace Go.Proofs.Ytpamepepibnlfaa.Tr
open Go Go.RowKit Go.Aw Go.Aw.Sha Go.Aw.Tree Go.Proofs.Ytpamepepibnlfaa.Sh
set_option linter.unusedVariables false
set_option linter.unusedSimpArgs false
set_option maxRecDepth 8000
set_option maxHeartbeats 4000000
attribute [local irreducible] sum

theorem okB_row {T : List Nat} (h : okB T) (i : Nat) : okB (rowOf 32 T i) := okB_chunk h _ _
theorem okB_belowTo {T : List Nat} (h : okB T) (p : Int) : ∀ i, okB (belowTo T p i)
  | 0 => okB.cons (by decide) .nil
  | i + 1 => okB.append (okB_belowTo h p i) (okB_row h _)
theorem okB_below {T : List Nat} (h : okB T) (p : Int) : okB (belowF T p) := by
  unfold belowF; split
  · exact okB_belowTo h p 4
  · exact .nil
theorem okB_sum (b : List Nat) : okB (sum b) := by
  with_unfolding_all (show okB (digest _))
  intro n hn
  obtain ⟨i, _, rfl⟩ := List.mem_map.1 hn
  exact Nat.mod_lt _ (by decide)
theorem okB_set {T r : List Nat} (h : okB T) (hr : okB r) (i : Nat) : okB (setRow 32 T i r) :=
  okB.append (okB.append (fun x hx => h x (List.mem_of_mem_take hx)) hr) (fun x hx => h x (List.mem_of_mem_drop hx))
theorem okB_fix {T : List Nat} (h : okB T) (p : Nat) : okB (fixF T p) := okB_set h (okB_sum _) _
theorem okB_inner {T : List Nat} (h : okB T) : ∀ i, okB (innerTo T i)
  | 0 => h
  | i + 1 => okB_fix (okB_inner h i) _

theorem rleaf_c (b : List Nat) (h : b.length ≤ 400000000) (hb : okB b) : PCall Try.prog 90 [.p (.v (.string (strOf b)))] (.a ((leafD b).map bc)) := by
  refine pcall_of Try.func90 rfl (fun w0 F S0 M0 => ?_)
  have h1 : (0 :: b).length ≤ 500000000 := by simp only [List.length_cons]; omega
  have h2 : okB (0 :: b) := .cons (by decide) hb
  have h3 : (sum (0 :: b)).length = 32 := sumLen _
  show AWs _ _ (Ret _ _ (.a ((sum (0 :: b)).map bc))) _
  repeat' (first
      | refine rnB ?_
      | refine rnSB ?_
      | refine rnG ?_
      | refine rnU ?_
      | ((fail_if_success (refine rnKn ?_)); refine rnP ?_ ?_ <;> (intro hq; try (have hq' := hq; simp only [hqs] at hq')))
      | refine rkB ?_
      | refine rkSB ?_
      | refine rkF ?_
      | refine rkU ?_
      | ((fail_if_success (refine rkKn ?_)); refine rkP ?_ ?_ <;> (intro hq; try (have hq' := hq; simp only [hqs] at hq')))
      | refine stp ?_
      | refine ifT ?_
      | refine ifF ?_
      | (refine ifQ ?_ ?_ <;> (try (intro hn)))
      | (refine ifB ?_ ?_ <;> (intro hq; try (have hq' := hq; simp only [hqs] at hq'))))
  exact rc1 rfl rfl rfl rfl rfl (by simpa using h3) finL_p rfl
instance {b : List Nat} : PC Try.prog 90 [.p (.v (.string (strOf b)))] (b.length ≤ 400000000 ∧ okB b) (.a ((leafD b).map bc)) := ⟨fun h => rleaf_c b h.1 h.2⟩

theorem rinner_c (T : List Nat) (hT : T.length = 672) (ho : okB T) : PCall Try.prog 91 [tv T] (tv (innerF T)) := by
  refine pcall_of Try.func91 rfl (fun w0 F S0 M0 => ?_)
  unfold innerF
  repeat' (first
      | refine rnB ?_
      | refine rnSB ?_
      | refine rnG ?_
      | refine rnU ?_
      | ((fail_if_success (refine rnKn ?_)); refine rnP ?_ ?_ <;> (intro hq; try (have hq' := hq; simp only [hqs] at hq')))
      | refine rkB ?_
      | refine rkSB ?_
      | refine rkF ?_
      | refine rkU ?_
      | ((fail_if_success (refine rkKn ?_)); refine rkP ?_ ?_ <;> (intro hq; try (have hq' := hq; simp only [hqs] at hq')))
      | refine stp ?_
      | refine ifT ?_
      | refine ifF ?_
      | (refine ifQ ?_ ?_ <;> (try (intro hn)))
      | (refine ifB ?_ ?_ <;> (intro hq; try (have hq' := hq; simp only [hqs] at hq'))))
  refine aws_loopS [3, 4, 5, 6, 7, 8, 9, 10, 11, 12, 13] [1] (fun (x : Nat × Int) => [(3, .p (.i x.2))]) (fun x => [(1, (1, some (.box 43 ((innerTo T x.1).map bc))))])
    (fun x => x.1 ≤ 5 ∧ x.2 = 4 - (x.1 : Int)) (fun x => 5 - x.1) (0, 4) ⟨Nat.zero_le _, rfl⟩ (by exact knA) (by exact knA) ?_
  rintro ⟨k, t⟩ β γ ⟨hk, ht⟩
  simp only at hk ht
  have hil := innerTo_len hT k
  have hbl := belowF_len (T := innerTo T k) (p := t) hil
  have hbl' : (belowF (innerTo T k) t).length ≤ 500000000 := by omega
  have hbo := okB_below (okB_inner ho k) t
  have hsl : (sum (belowF (innerTo T k) t)).length = 32 := sumLen _
  dsimp only
  by_cases hk5 : k < 5
  · have hd : decide (0 ≤ t) = true := decide_eq_true (by omega)
    repeat' (first
        | refine rnB ?_
        | refine rnSB ?_
        | refine rnG ?_
        | refine rnU ?_
        | ((fail_if_success (refine rnKn ?_)); refine rnP ?_ ?_ <;> (intro hq; try (have hq' := hq; simp only [hqs] at hq')))
        | refine rkB ?_
        | refine rkSB ?_
        | refine rkF ?_
        | refine rkU ?_
        | ((fail_if_success (refine rkKn ?_)); refine rkP ?_ ?_ <;> (intro hq; try (have hq' := hq; simp only [hqs] at hq')))
        | refine stp ?_
        | refine ifT ?_
        | refine ifF ?_
        | (refine ifQ ?_ ?_ <;> (try (intro hn)))
        | (refine ifB ?_ ?_ <;> (intro hq; try (have hq' := hq; simp only [hqs] at hq'))))
    refine ⟨(k + 1, t - 1), _, by dsimp only; omega, ⟨by dsimp only; omega, by dsimp only; omega⟩, .refl, ?_⟩
    have e : innerTo T (k + 1) = setRow 32 (innerTo T k) t.toNat (sum (belowF (innerTo T k) t)) := by
      obtain rfl : t = ((4 - k : Nat) : Int) := by omega
      rw [innerTo, fixF, Int.toNat_natCast]
    dsimp only
    rw [e]
    exact frA
  · have hd : decide (0 ≤ t) = false := decide_eq_false (by omega)
    have hk5' : innerTo T 5 = innerTo T k := by rw [show k = 5 by omega]
    rw [hk5']
    repeat' (first
        | refine rnB ?_
        | refine rnSB ?_
        | refine rnG ?_
        | refine rnU ?_
        | ((fail_if_success (refine rnKn ?_)); refine rnP ?_ ?_ <;> (intro hq; try (have hq' := hq; simp only [hqs] at hq')))
        | refine rkB ?_
        | refine rkSB ?_
        | refine rkF ?_
        | refine rkU ?_
        | ((fail_if_success (refine rkKn ?_)); refine rkP ?_ ?_ <;> (intro hq; try (have hq' := hq; simp only [hqs] at hq')))
        | refine stp ?_
        | refine ifT ?_
        | refine ifF ?_
        | (refine ifQ ?_ ?_ <;> (try (intro hn)))
        | (refine ifB ?_ ?_ <;> (intro hq; try (have hq' := hq; simp only [hqs] at hq'))))
    exact rc1 rfl rfl rfl rfl rfl (by simpa using hil) finL_p rfl
instance {T : List Nat} : PC Try.prog 91 [tv T] (T.length = 672 ∧ okB T) (tv (innerF T)) := ⟨fun h => rinner_c T h.1 h.2⟩
end Go.Proofs.Ytpamepepibnlfaa.Tr
