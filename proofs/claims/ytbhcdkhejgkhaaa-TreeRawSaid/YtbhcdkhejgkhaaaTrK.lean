/- trees, the laws: any digests -/
import Derived.Test.YtbhcdkhejgkhaaaTrH
import Derived.Test.YtbhcdkhejgkhaaaTrB
import Derived.Test.YtbhcdkhejgkhaaaTrC
import Derived.Test.YtbhcdkhejgkhaaaTrG
namespace Go.Proofs.Ytbhcdkhejgkhaaa.Tr
open Go Go.RowKit Go.Aw Go.Aw.Sha Go.Aw.Tree Go.Proofs.Ytbhcdkhejgkhaaa.Sh
set_option linter.unusedVariables false
set_option linter.unusedSimpArgs false
set_option maxRecDepth 8000
set_option maxHeartbeats 4000000
attribute [local irreducible] sum

def rawTo (ds : List (List Nat)) : Nat → List Nat
  | 0 => List.replicate 672 0
  | i + 1 => setRow 32 (rawTo ds i) i (ds.getD i default)
theorem rawTo_len {ds : List (List Nat)} (h : ∀ d ∈ ds, d.length = 32 ∧ okB d) : ∀ i, i ≤ ds.length → i ≤ 21 → (rawTo ds i).length = 672 ∧ okB (rawTo ds i)
  | 0, _, _ => ⟨List.length_replicate, fun n hn => by rw [rawTo] at hn; rw [List.eq_of_mem_replicate hn]; decide⟩
  | i + 1, h1, h2 => by
    have ih := rawTo_len h i (by omega) (by omega)
    have hd := h (ds.getD i default) (by rw [List.getD_eq_getElem?_getD, List.getElem?_eq_getElem (by omega)]; exact List.getElem_mem _)
    rw [rawTo]
    exact ⟨by rw [setRow_len (by omega) hd.1]; exact ih.1, okB_set ih.2 hd.2 _⟩
theorem raw_c (ds : List (List Nat)) (leaf : Int) (b : List Nat) (hd : ∀ d ∈ ds, d.length = 32 ∧ okB d) (hdl : ds.length ≤ 9223372036854775807) (hb : b.length ≤ 9223372036854775807) (hbo : okB b) :
    PCall Try.prog 12 [.p (.sl 32 (ds.map fun d => d.map fun n : Nat => PVal.k .u8 n) false), .p (.i leaf), bytesN b false] (.p (.b true)) := by
  refine pcall_of Try.func12 rfl (fun w0 F S0 M0 => ?_)
  by_cases h3 : 300 < b.length
  · have hd : decide (300 < (b.length : Int)) = true := decide_eq_true (by omega)
    repeat' (first
        | refine rnB ?_
        | refine rnSB ?_
        | refine rnG ?_
        | refine rnU ?_
        | ((fail_if_success (refine rnKn ?_)); refine rnP ?_ ?_ <;> (intro hq; try (have hq' := hq; simp only [hqs] at hq')))
        | refine rkB ?_
        | refine rkSB ?_
        | refine rkF ?_
        | refine rkU ?_
        | ((fail_if_success (refine rkKn ?_)); refine rkP ?_ ?_ <;> (intro hq; try (have hq' := hq; simp only [hqs] at hq')))
        | refine stp ?_
        | refine ifT ?_
        | refine ifF ?_
        | (refine ifQ ?_ ?_ <;> (try (intro hn)))
        | (refine ifB ?_ ?_ <;> (intro hq; try (have hq' := hq; simp only [hqs] at hq'))))
    exact rt1 rfl rfl finS_p rfl
  · have hdb : decide (300 < (b.length : Int)) = false := decide_eq_false (by omega)
    repeat' (first
        | refine rnB ?_
        | refine rnSB ?_
        | refine rnG ?_
        | refine rnU ?_
        | ((fail_if_success (refine rnKn ?_)); refine rnP ?_ ?_ <;> (intro hq; try (have hq' := hq; simp only [hqs] at hq')))
        | refine rkB ?_
        | refine rkSB ?_
        | refine rkF ?_
        | refine rkU ?_
        | ((fail_if_success (refine rkKn ?_)); refine rkP ?_ ?_ <;> (intro hq; try (have hq' := hq; simp only [hqs] at hq')))
        | refine stp ?_
        | refine ifT ?_
        | refine ifF ?_
        | (refine ifQ ?_ ?_ <;> (try (intro hn)))
        | (refine ifB ?_ ?_ <;> (intro hq; try (have hq' := hq; simp only [hqs] at hq'))))
    refine aws_loopS [8, 15, 16, 17, 18, 19, 20, 21, 22, 23, 24, 25, 26, 27, 28, 29, 30] [7] (fun (i : Nat) => [(8, .p (.i i))]) (fun i => [(7, (1, some (.box 68 ((rawTo ds i).map bc))))])
      (fun i => i ≤ ds.length ∧ i ≤ 21) (fun i => 21 - i) 0 ⟨Nat.zero_le _, Nat.zero_le _⟩ (by exact knA) (by exact knA) ?_
    rintro i β γ ⟨hi, hi21⟩
    obtain ⟨lT, oT⟩ := rawTo_len hd i hi hi21
    by_cases hc : i < ds.length ∧ i < 21
    · have c1 : decide ((i : Int) < (ds.length : Int)) = true := decide_eq_true (by omega)
      have c2 : decide ((i : Int) < 21) = true := decide_eq_true (by omega)
      have hdd := hd (ds.getD (i : Int).toNat default) (by rw [Int.toNat_natCast, List.getD_eq_getElem?_getD, List.getElem?_eq_getElem hc.1]; exact List.getElem_mem _)
      have hd32 : (ds.getD (i : Int).toNat default).length = 32 := hdd.1
      repeat' (first
          | refine rnB ?_
          | refine rnSB ?_
          | refine rnG ?_
          | refine rnU ?_
          | ((fail_if_success (refine rnKn ?_)); refine rnP ?_ ?_ <;> (intro hq; try (have hq' := hq; simp only [hqs] at hq')))
          | refine rkB ?_
          | refine rkSB ?_
          | refine rkF ?_
          | refine rkU ?_
          | ((fail_if_success (refine rkKn ?_)); refine rkP ?_ ?_ <;> (intro hq; try (have hq' := hq; simp only [hqs] at hq')))
          | refine stp ?_
          | refine ifT ?_
          | refine ifF ?_
          | (refine ifQ ?_ ?_ <;> (try (intro hn)))
          | (refine ifB ?_ ?_ <;> (intro hq; try (have hq' := hq; simp only [hqs] at hq'))))
      refine ⟨i + 1, _, by omega, ⟨by omega, by omega⟩, .refl, ?_⟩
      have e : rawTo ds (i + 1) = setRow 32 (rawTo ds i) (i : Int).toNat (ds.getD (i : Int).toNat default) := by rw [rawTo, Int.toNat_natCast]
      rw [e]
      exact frA
    · generalize rawTo ds i = T at lT oT ⊢
      obtain ⟨U, hU⟩ : ∃ U, U = innerF T := ⟨_, rfl⟩
      have lU : U.length = 672 := by rw [hU]; exact innerTo_len lT 5
      have rU : rightF U = true := by rw [hU]; exact right_inner lT
      have e1 : (rightF T == decide (U = T)) = true := by rw [right_iff lT, ← hU]; simp
      haveI j0 : PC Try.prog 57 [tv T] True (tv U) := ⟨fun _ => by rw [hU]; exact rinner_c T lT oT⟩
      obtain ⟨W, hW⟩ : ∃ W, W = withF T leaf b := ⟨_, rfl⟩
      have lW : W.length = 672 := by rw [hW]; exact withF_len lT
      haveI j3 : PC Try.prog 53 [tv T, .p (.i leaf), bytesN b false] True (tv W) := ⟨fun _ => by rw [hW]; exact with_c T leaf b false ⟨lT, by omega⟩⟩
      haveI j4 : PC Try.prog 54 [tv T, .p (.i leaf), .p (.v (.string (strOf b)))] True (tv W) := ⟨fun _ => by rw [hW]; exact rwith_c T leaf b lT (by omega) oT hbo⟩
      have e2 : decide (W = W) = true := decide_eq_true rfl
      clear hU hW
      by_cases hc1 : i < ds.length
      · have c1 : decide ((i : Int) < (ds.length : Int)) = true := decide_eq_true (by omega)
        have c2 : decide ((i : Int) < 21) = false := decide_eq_false (by omega)
        repeat' (first
            | refine rnB ?_
            | refine rnSB ?_
            | refine rnG ?_
            | refine rnU ?_
            | ((fail_if_success (refine rnKn ?_)); refine rnP ?_ ?_ <;> (intro hq; try (have hq' := hq; simp only [hqs] at hq')))
            | refine rkB ?_
            | refine rkSB ?_
            | refine rkF ?_
            | refine rkU ?_
            | ((fail_if_success (refine rkKn ?_)); refine rkP ?_ ?_ <;> (intro hq; try (have hq' := hq; simp only [hqs] at hq')))
            | refine stp ?_
            | refine ifT ?_
            | refine ifF ?_
            | (refine ifQ ?_ ?_ <;> (try (intro hn)))
            | (refine ifB ?_ ?_ <;> (intro hq; try (have hq' := hq; simp only [hqs] at hq'))))
        refine aws_draws [] mixed (by kernel_rfl) ?_
        repeat' (first
            | refine rk_nil ?_
            | refine rkB ?_
            | refine rkSB ?_
            | refine rkF ?_
            | refine rkU ?_
            | ((fail_if_success (refine rkKn ?_)); refine rkP ?_ ?_ <;> (intro hq; try (have hq' := hq; simp only [hqs] at hq'))))
        repeat' (first
            | refine rnB ?_
            | refine rnSB ?_
            | refine rnG ?_
            | refine rnU ?_
            | ((fail_if_success (refine rnKn ?_)); refine rnP ?_ ?_ <;> (intro hq; try (have hq' := hq; simp only [hqs] at hq')))
            | refine rkB ?_
            | refine rkSB ?_
            | refine rkF ?_
            | refine rkU ?_
            | ((fail_if_success (refine rkKn ?_)); refine rkP ?_ ?_ <;> (intro hq; try (have hq' := hq; simp only [hqs] at hq')))
            | refine stp ?_
            | refine ifT ?_
            | refine ifF ?_
            | (refine ifQ ?_ ?_ <;> (try (intro hn)))
            | (refine ifB ?_ ?_ <;> (intro hq; try (have hq' := hq; simp only [hqs] at hq'))))
        exact rt1 rfl rfl finS_p (rb e2.symm)
      · have c1 : decide ((i : Int) < (ds.length : Int)) = false := decide_eq_false (by omega)
        repeat' (first
            | refine rnB ?_
            | refine rnSB ?_
            | refine rnG ?_
            | refine rnU ?_
            | ((fail_if_success (refine rnKn ?_)); refine rnP ?_ ?_ <;> (intro hq; try (have hq' := hq; simp only [hqs] at hq')))
            | refine rkB ?_
            | refine rkSB ?_
            | refine rkF ?_
            | refine rkU ?_
            | ((fail_if_success (refine rkKn ?_)); refine rkP ?_ ?_ <;> (intro hq; try (have hq' := hq; simp only [hqs] at hq')))
            | refine stp ?_
            | refine ifT ?_
            | refine ifF ?_
            | (refine ifQ ?_ ?_ <;> (try (intro hn)))
            | (refine ifB ?_ ?_ <;> (intro hq; try (have hq' := hq; simp only [hqs] at hq'))))
        refine aws_draws [] mixed (by kernel_rfl) ?_
        repeat' (first
            | refine rk_nil ?_
            | refine rkB ?_
            | refine rkSB ?_
            | refine rkF ?_
            | refine rkU ?_
            | ((fail_if_success (refine rkKn ?_)); refine rkP ?_ ?_ <;> (intro hq; try (have hq' := hq; simp only [hqs] at hq'))))
        repeat' (first
            | refine rnB ?_
            | refine rnSB ?_
            | refine rnG ?_
            | refine rnU ?_
            | ((fail_if_success (refine rnKn ?_)); refine rnP ?_ ?_ <;> (intro hq; try (have hq' := hq; simp only [hqs] at hq')))
            | refine rkB ?_
            | refine rkSB ?_
            | refine rkF ?_
            | refine rkU ?_
            | ((fail_if_success (refine rkKn ?_)); refine rkP ?_ ?_ <;> (intro hq; try (have hq' := hq; simp only [hqs] at hq')))
            | refine stp ?_
            | refine ifT ?_
            | refine ifF ?_
            | (refine ifQ ?_ ?_ <;> (try (intro hn)))
            | (refine ifB ?_ ?_ <;> (intro hq; try (have hq' := hq; simp only [hqs] at hq'))))
        exact rt1 rfl rfl finS_p (rb e2.symm)
end Go.Proofs.Ytbhcdkhejgkhaaa.Tr
