/- clashes: what the library's functions answer -/
import Derived.Test.YtpamepepibnlfaaClX
namespace Go.Proofs.Ytpamepepibnlfaa.Cl
open Go Go.RowKit Go.Aw Go.Aw.Sha Go.Aw.Tree Go.Aw.Clash Go.Proofs.Ytpamepepibnlfaa.Sh Go.Proofs.Ytpamepepibnlfaa.Tr
set_option linter.unusedVariables false
set_option linter.unusedSimpArgs false
set_option maxRecDepth 8000
attribute [local irreducible] sum
set_option maxHeartbeats 4000000
def idxFrom (l : List Int) (v : Int) (k : Nat) : Nat → Int
  | 0 => -1
  | n + 1 => if v = l.getD k default then k else idxFrom l v (k + 1) n
theorem idx_mem {l : List Int} {v : Int} : ∀ (n k : Nat), k + n = l.length → (0 ≤ idxFrom l v k n ↔ v ∈ l.drop k)
  | 0, k, h => by rw [List.drop_eq_nil_of_le (by omega)]; simp [idxFrom]
  | n + 1, k, h => by
    have hk : k < l.length := by omega
    have e : l.drop k = l.getD k default :: l.drop (k + 1) := by
      rw [List.getD_eq_getElem?_getD, List.getElem?_eq_getElem hk]; exact List.drop_eq_getElem_cons hk
    rw [idxFrom, e, List.mem_cons, ← idx_mem n (k + 1) (by omega)]
    by_cases hv : v = l.getD k default
    · rw [if_pos hv]; exact ⟨fun _ => .inl hv, fun _ => by omega⟩
    · rw [if_neg hv]; exact ⟨.inr, fun q => q.resolve_left hv⟩
theorem index_w (l : List Int) (ex : Bool) (v : Int) (h : l.length ≤ 1000) : PCall Try.prog 94 [ints l ex, .p (.i v)] (.p (.i (idxFrom l v 0 l.length))) := by
  refine pcall_of Try.func94 rfl (fun w0 F S0 M0 => ?_)
  repeat' (first
      | refine rnB ?_
      | refine rnSB ?_
      | refine rnG ?_
      | refine rnU ?_
      | ((fail_if_success (refine rnKn ?_)); refine rnP ?_ ?_ <;> (intro hq; try (have hq' := hq; simp only [hqs] at hq')))
      | refine rkB ?_
      | refine rkSB ?_
      | refine rkF ?_
      | refine rkU ?_
      | ((fail_if_success (refine rkKn ?_)); refine rkP ?_ ?_ <;> (intro hq; try (have hq' := hq; simp only [hqs] at hq')))
      | refine stp ?_
      | refine ifT ?_
      | refine ifF ?_
      | (refine ifQ ?_ ?_ <;> (try (intro hn)))
      | (refine ifB ?_ ?_ <;> (intro hq; try (have hq' := hq; simp only [hqs] at hq'))))
  refine aws_loopS [4, 5, 8, 9, 10, 11, 12, 13, 14, 15, 16, 17, 18] [] (fun (i : Nat) => [(8, .p (.i i))]) (fun _ => []) (fun i => i ≤ l.length ∧ idxFrom l v 0 l.length = idxFrom l v i (l.length - i)) (fun i => l.length - i) 0 ⟨Nat.zero_le _, rfl⟩ (by exact knA) (by exact knA) ?_
  rintro i β γ ⟨hi, hx⟩
  by_cases hil : i < l.length
  · have hlt : decide ((i : Int) < l.length) = true := decide_eq_true (by omega)
    rw [show l.length - i = (l.length - (i + 1)) + 1 by omega, idxFrom] at hx
    by_cases hv : v = l.getD (i : Int).toNat default
    · have hd : decide (v = l.getD (i : Int).toNat default) = true := decide_eq_true hv
      rw [Int.toNat_natCast] at hv
      rw [if_pos hv] at hx
      rw [hx]
      repeat' (first
          | refine rnB ?_
          | refine rnSB ?_
          | refine rnG ?_
          | refine rnU ?_
          | ((fail_if_success (refine rnKn ?_)); refine rnP ?_ ?_ <;> (intro hq; try (have hq' := hq; simp only [hqs] at hq')))
          | refine rkB ?_
          | refine rkSB ?_
          | refine rkF ?_
          | refine rkU ?_
          | ((fail_if_success (refine rkKn ?_)); refine rkP ?_ ?_ <;> (intro hq; try (have hq' := hq; simp only [hqs] at hq')))
          | refine stp ?_
          | refine ifT ?_
          | refine ifF ?_
          | (refine ifQ ?_ ?_ <;> (try (intro hn)))
          | (refine ifB ?_ ?_ <;> (intro hq; try (have hq' := hq; simp only [hqs] at hq'))))
      exact rt1 rfl rfl finS_p rfl
    · have hd : decide (v = l.getD (i : Int).toNat default) = false := decide_eq_false hv
      rw [Int.toNat_natCast] at hv
      rw [if_neg hv] at hx
      repeat' (first
          | refine rnB ?_
          | refine rnSB ?_
          | refine rnG ?_
          | refine rnU ?_
          | ((fail_if_success (refine rnKn ?_)); refine rnP ?_ ?_ <;> (intro hq; try (have hq' := hq; simp only [hqs] at hq')))
          | refine rkB ?_
          | refine rkSB ?_
          | refine rkF ?_
          | refine rkU ?_
          | ((fail_if_success (refine rkKn ?_)); refine rkP ?_ ?_ <;> (intro hq; try (have hq' := hq; simp only [hqs] at hq')))
          | refine stp ?_
          | refine ifT ?_
          | refine ifF ?_
          | (refine ifQ ?_ ?_ <;> (try (intro hn)))
          | (refine ifB ?_ ?_ <;> (intro hq; try (have hq' := hq; simp only [hqs] at hq'))))
      exact ⟨i + 1, _, by omega, ⟨by omega, hx⟩, .refl, by exact frA⟩
  · have hlt : decide ((i : Int) < l.length) = false := decide_eq_false (by omega)
    rw [show l.length - i = 0 by omega, idxFrom] at hx
    rw [hx]
    repeat' (first
        | refine rnB ?_
        | refine rnSB ?_
        | refine rnG ?_
        | refine rnU ?_
        | ((fail_if_success (refine rnKn ?_)); refine rnP ?_ ?_ <;> (intro hq; try (have hq' := hq; simp only [hqs] at hq')))
        | refine rkB ?_
        | refine rkSB ?_
        | refine rkF ?_
        | refine rkU ?_
        | ((fail_if_success (refine rkKn ?_)); refine rkP ?_ ?_ <;> (intro hq; try (have hq' := hq; simp only [hqs] at hq')))
        | refine stp ?_
        | refine ifT ?_
        | refine ifF ?_
        | (refine ifQ ?_ ?_ <;> (try (intro hn)))
        | (refine ifB ?_ ?_ <;> (intro hq; try (have hq' := hq; simp only [hqs] at hq'))))
    exact rt1 rfl rfl finS_p rfl
instance {l : List Int} {ex : Bool} {v : Int} : PC Try.prog 94 [ints l ex, .p (.i v)] (l.length ≤ 1000) (.p (.i (idxFrom l v 0 l.length))) := ⟨index_w l ex v⟩
theorem contains_w (l : List Int) (ex : Bool) (v : Int) (h : l.length ≤ 1000) : PCall Try.prog 54 [ints l ex, .p (.i v)] (.p (.b (decide (v ∈ l)))) := by
  refine pcall_of Try.func54 rfl (fun w0 F S0 M0 => ?_)
  repeat' (first
      | refine rnB ?_
      | refine rnSB ?_
      | refine rnG ?_
      | refine rnU ?_
      | ((fail_if_success (refine rnKn ?_)); refine rnP ?_ ?_ <;> (intro hq; try (have hq' := hq; simp only [hqs] at hq')))
      | refine rkB ?_
      | refine rkSB ?_
      | refine rkF ?_
      | refine rkU ?_
      | ((fail_if_success (refine rkKn ?_)); refine rkP ?_ ?_ <;> (intro hq; try (have hq' := hq; simp only [hqs] at hq')))
      | refine stp ?_
      | refine ifT ?_
      | refine ifF ?_
      | (refine ifQ ?_ ?_ <;> (try (intro hn)))
      | (refine ifB ?_ ?_ <;> (intro hq; try (have hq' := hq; simp only [hqs] at hq'))))
  refine rt1 rfl rfl finS_p (rb ?_)
  exact decide_eq_decide.2 ((idx_mem (l := l) (v := v) l.length 0 (by omega)).trans (by rw [List.drop_zero])).symm
instance {l : List Int} {ex : Bool} {v : Int} : PC Try.prog 54 [ints l ex, .p (.i v)] (l.length ≤ 1000) (.p (.b (decide (v ∈ l)))) := ⟨contains_w l ex v⟩
theorem bequal_w (l m : List Nat) (ex ey : Bool) (h : okB l ∧ okB m) : PCall Try.prog 53 [bytesN l ex, bytesN m ey] (.p (.b (decide (l = m)))) := by
  refine pcall_of Try.func53 rfl (fun w0 F S0 M0 => ?_)
  obtain ⟨hl, hm⟩ := h
  repeat' (first
      | refine rnB ?_
      | refine rnSB ?_
      | refine rnG ?_
      | refine rnU ?_
      | ((fail_if_success (refine rnKn ?_)); refine rnP ?_ ?_ <;> (intro hq; try (have hq' := hq; simp only [hqs] at hq')))
      | refine rkB ?_
      | refine rkSB ?_
      | refine rkF ?_
      | refine rkU ?_
      | ((fail_if_success (refine rkKn ?_)); refine rkP ?_ ?_ <;> (intro hq; try (have hq' := hq; simp only [hqs] at hq')))
      | refine stp ?_
      | refine ifT ?_
      | refine ifF ?_
      | (refine ifQ ?_ ?_ <;> (try (intro hn)))
      | (refine ifB ?_ ?_ <;> (intro hq; try (have hq' := hq; simp only [hqs] at hq'))))
  exact rt1 rfl rfl finS_p (rb rfl)
instance {l m : List Nat} {ex ey : Bool} : PC Try.prog 53 [bytesN l ex, bytesN m ey] (okB l ∧ okB m) (.p (.b (decide (l = m)))) := ⟨bequal_w l m ex ey⟩
end Go.Proofs.Ytpamepepibnlfaa.Cl
