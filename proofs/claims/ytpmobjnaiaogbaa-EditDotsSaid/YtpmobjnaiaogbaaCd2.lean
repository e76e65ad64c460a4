/- dots: is a dot in an own list -/
import Derived.Test.YtpmobjnaiaogbaaCaH
import Derived.Test.YtpmobjnaiaogbaaKg
namespace Go.Proofs.Ytpmobjnaiaogbaa.Ca
open Go Go.RowKit Go.Aw Go.Aw.Cart
set_option linter.unusedVariables false
set_option linter.unusedSimpArgs false
set_option maxRecDepth 8000
set_option maxHeartbeats 4000000
theorem indexD_o (n : Nat) (l : List Dot) (d : Dot) (h : l.length ≤ 1000000000) : OCall Try.prog 109 [.o (.osl 1000 n 2 0 l.length), dV d] (memL [(1000, (n + 1, some (.buf 54 2 (l.map dR))))]) (.p (.i (idxD d l 0 l.length))) (memL [(1000, (n + 1, some (.buf 54 2 (l.map dR))))]) := by
  refine ocall_of1 Try.func109 rfl (fun w0 F S0 M0 => ?_)
  obtain ⟨A, hA⟩ : ∃ A, A = idxD d l 0 l.length := ⟨_, rfl⟩
  rw [← hA]
  repeat' (first
      | refine rnQ ?_
      | refine rnSQ ?_
      | refine rnG ?_
      | refine rnU ?_
      | ((fail_if_success (refine rnKn ?_)); refine rnP ?_ ?_ <;> (intro hq; try (have hq' := hq; simp only [hqs] at hq')))
      | refine rkQ ?_
      | refine rkSQ ?_
      | refine rkF ?_
      | refine rkU ?_
      | ((fail_if_success (refine rkKn ?_)); refine rkP ?_ ?_ <;> (intro hq; try (have hq' := hq; simp only [hqs] at hq')))
      | refine stp ?_
      | refine ifT ?_
      | refine ifF ?_
      | (refine ifQ ?_ ?_ <;> (try (intro hn)))
      | (refine ifB ?_ ?_ <;> (intro hq; try (have hq' := hq; simp only [hqs] at hq'))))
  refine aws_loopS [4, 5, 8, 9, 10, 11, 12, 13, 14, 15, 16, 17, 18] [] (fun (i : Nat) => [(8, .p (.i i))]) (fun _ => []) (fun i => i ≤ l.length ∧ A = idxD d l i (l.length - i)) (fun i => l.length - i) 0 ⟨Nat.zero_le _, hA⟩ (by exact knA) (by exact knA) ?_
  rintro i β γ ⟨hi, hx⟩
  by_cases hil : i < l.length
  · have hlt : decide ((i : Int) < l.length) = true := decide_eq_true (by omega)
    rw [show l.length - i = (l.length - (i + 1)) + 1 by omega, idxD] at hx
    have hv := vEqD d (l.getD (i : Int).toNat default)
    by_cases hp : d = l.getD i default
    · rw [if_pos hp] at hx
      rw [decide_eq_true (by rw [Int.toNat_natCast]; exact hp)] at hv
      rw [hx]
      as_aux_lemma =>
        repeat' (first
            | refine rnQ ?_
            | refine rnSQ ?_
            | refine rnG ?_
            | refine rnU ?_
            | ((fail_if_success (refine rnKn ?_)); refine rnP ?_ ?_ <;> (intro hq; try (have hq' := hq; simp only [hqs] at hq')))
            | refine rkQ ?_
            | refine rkSQ ?_
            | refine rkF ?_
            | refine rkU ?_
            | ((fail_if_success (refine rkKn ?_)); refine rkP ?_ ?_ <;> (intro hq; try (have hq' := hq; simp only [hqs] at hq')))
            | refine stp ?_
            | refine aws_draws [] mixed (by kernel_rfl) ?_
            | refine ifT ?_
            | refine ifF ?_
            | (refine ifQ ?_ ?_ <;> (try (intro hn)))
            | (refine ifB ?_ ?_ <;> (intro hq; try (have hq' := hq; simp only [hqs] at hq'))))
        exact RetO.mk (ot1 rfl rfl finS_p rfl) ⟨.buf, trivial⟩
    · rw [if_neg hp] at hx
      rw [decide_eq_false (by rw [Int.toNat_natCast]; exact hp)] at hv
      as_aux_lemma =>
        repeat' (first
            | refine rnQ ?_
            | refine rnSQ ?_
            | refine rnG ?_
            | refine rnU ?_
            | ((fail_if_success (refine rnKn ?_)); refine rnP ?_ ?_ <;> (intro hq; try (have hq' := hq; simp only [hqs] at hq')))
            | refine rkQ ?_
            | refine rkSQ ?_
            | refine rkF ?_
            | refine rkU ?_
            | ((fail_if_success (refine rkKn ?_)); refine rkP ?_ ?_ <;> (intro hq; try (have hq' := hq; simp only [hqs] at hq')))
            | refine stp ?_
            | refine aws_draws [] mixed (by kernel_rfl) ?_
            | refine ifT ?_
            | refine ifF ?_
            | (refine ifQ ?_ ?_ <;> (try (intro hn)))
            | (refine ifB ?_ ?_ <;> (intro hq; try (have hq' := hq; simp only [hqs] at hq'))))
        exact ⟨i + 1, _, by omega, ⟨by omega, hx⟩, .refl, by exact frA⟩
  · have hlt : decide ((i : Int) < l.length) = false := decide_eq_false (by omega)
    rw [show l.length - i = 0 by omega, idxD] at hx
    rw [hx]
    as_aux_lemma =>
      repeat' (first
          | refine rnQ ?_
          | refine rnSQ ?_
          | refine rnG ?_
          | refine rnU ?_
          | ((fail_if_success (refine rnKn ?_)); refine rnP ?_ ?_ <;> (intro hq; try (have hq' := hq; simp only [hqs] at hq')))
          | refine rkQ ?_
          | refine rkSQ ?_
          | refine rkF ?_
          | refine rkU ?_
          | ((fail_if_success (refine rkKn ?_)); refine rkP ?_ ?_ <;> (intro hq; try (have hq' := hq; simp only [hqs] at hq')))
          | refine stp ?_
          | refine aws_draws [] mixed (by kernel_rfl) ?_
          | refine ifT ?_
          | refine ifF ?_
          | (refine ifQ ?_ ?_ <;> (try (intro hn)))
          | (refine ifB ?_ ?_ <;> (intro hq; try (have hq' := hq; simp only [hqs] at hq'))))
      exact RetO.mk (ot1 rfl rfl finS_p rfl) ⟨.buf, trivial⟩
instance indexDO_i {c g n : Nat} {l : List Dot} {d : Dot} : OC Try.prog 109 [.o (.osl c g 2 0 l.length), dV d] [(c, (n, some (.buf 54 2 (l.map dR))))] [] (n = g + 1 ∧ l.length ≤ 1000000000) (.p (.i (idxD d l 0 l.length))) [(c, (n, some (.buf 54 2 (l.map dR))))] := ⟨fun h => by obtain ⟨rfl, h⟩ := h; exact (indexD_o g l d h).one c⟩
theorem containsD_o (n : Nat) (l : List Dot) (d : Dot) (h : l.length ≤ 1000000000) : OCall Try.prog 66 [.o (.osl 1000 n 2 0 l.length), dV d] (memL [(1000, (n + 1, some (.buf 54 2 (l.map dR))))]) (.p (.b (decide (d ∈ l)))) (memL [(1000, (n + 1, some (.buf 54 2 (l.map dR))))]) := by
  refine ocall_of1 Try.func66 rfl (fun w0 F S0 M0 => ?_)
  have e := idxD_any (d := d) (l := l) l.length 0 (by omega)
  rw [List.drop_zero] at e
  rw [← e]
  as_aux_lemma =>
    repeat' (first
        | refine rnQ ?_
        | refine rnSQ ?_
        | refine rnG ?_
        | refine rnU ?_
        | ((fail_if_success (refine rnKn ?_)); refine rnP ?_ ?_ <;> (intro hq; try (have hq' := hq; simp only [hqs] at hq')))
        | refine rkQ ?_
        | refine rkSQ ?_
        | refine rkF ?_
        | refine rkU ?_
        | ((fail_if_success (refine rkKn ?_)); refine rkP ?_ ?_ <;> (intro hq; try (have hq' := hq; simp only [hqs] at hq')))
        | refine stp ?_
        | refine aws_draws [] mixed (by kernel_rfl) ?_
        | refine ifT ?_
        | refine ifF ?_
        | (refine ifQ ?_ ?_ <;> (try (intro hn)))
        | (refine ifB ?_ ?_ <;> (intro hq; try (have hq' := hq; simp only [hqs] at hq'))))
    exact RetO.mk (ot1 rfl rfl finS_p rfl) ⟨.buf, trivial⟩
instance containsDO_i {c g n : Nat} {l : List Dot} {d : Dot} : OC Try.prog 66 [.o (.osl c g 2 0 l.length), dV d] [(c, (n, some (.buf 54 2 (l.map dR))))] [] (n = g + 1 ∧ l.length ≤ 1000000000) (.p (.b (decide (d ∈ l)))) [(c, (n, some (.buf 54 2 (l.map dR))))] := ⟨fun h => by obtain ⟨rfl, h⟩ := h; exact (containsD_o g l d h).one c⟩
theorem dHas_o (n : Nat) (l : List Dot) (d : Dot) (h : l.length ≤ 1000000000) : OCall Try.prog 28 [.o (.osl 1000 n 2 0 l.length), dV d] (memL [(1000, (n + 1, some (.buf 54 2 (l.map dR))))]) (.p (.b (decide (d ∈ l)))) (memL [(1000, (n + 1, some (.buf 54 2 (l.map dR))))]) := by
  refine ocall_of1 Try.func28 rfl (fun w0 F S0 M0 => ?_)
  as_aux_lemma =>
    repeat' (first
        | refine rnQ ?_
        | refine rnSQ ?_
        | refine rnG ?_
        | refine rnU ?_
        | ((fail_if_success (refine rnKn ?_)); refine rnP ?_ ?_ <;> (intro hq; try (have hq' := hq; simp only [hqs] at hq')))
        | refine rkQ ?_
        | refine rkSQ ?_
        | refine rkF ?_
        | refine rkU ?_
        | ((fail_if_success (refine rkKn ?_)); refine rkP ?_ ?_ <;> (intro hq; try (have hq' := hq; simp only [hqs] at hq')))
        | refine stp ?_
        | refine aws_draws [] mixed (by kernel_rfl) ?_
        | refine ifT ?_
        | refine ifF ?_
        | (refine ifQ ?_ ?_ <;> (try (intro hn)))
        | (refine ifB ?_ ?_ <;> (intro hq; try (have hq' := hq; simp only [hqs] at hq'))))
    exact RetO.mk (ot1 rfl rfl finS_p rfl) ⟨.buf, trivial⟩
instance dHasO_i {c g n : Nat} {l : List Dot} {d : Dot} : OC Try.prog 28 [.o (.osl c g 2 0 l.length), dV d] [(c, (n, some (.buf 54 2 (l.map dR))))] [] (n = g + 1 ∧ l.length ≤ 1000000000) (.p (.b (decide (d ∈ l)))) [(c, (n, some (.buf 54 2 (l.map dR))))] := ⟨fun h => by obtain ⟨rfl, h⟩ := h; exact (dHas_o g l d h).one c⟩
end Go.Proofs.Ytpmobjnaiaogbaa.Ca
