/- trees, the laws: fixed calls -/
import Derived.Test.YtbhcdkhejgkhaaaTrB
import Derived.Test.YtbhcdkhejgkhaaaTrC
import Derived.Test.YtbhcdkhejgkhaaaTrA
import Derived.Test.YtbhcdkhejgkhaaaTr6
import Derived.Test.YtbhcdkhejgkhaaaTrL
import Derived.Test.YtbhcdkhejgkhaaaShK
import Derived.Test.YtbhcdkhejgkhaaaKf
namespace Go.Proofs.Ytbhcdkhejgkhaaa.Tr
open Go Go.RowKit Go.Aw Go.Aw.Sha Go.Aw.Tree Go.Proofs.Ytbhcdkhejgkhaaa.Sh
set_option linter.unusedVariables false
set_option linter.unusedSimpArgs false
set_option maxRecDepth 8000
set_option maxHeartbeats 4000000
attribute [local irreducible] sum

theorem lopC {C : Ctx} {o : Oper} {σ : St} {e : Eff} {ro : Nat → Bool} (h : LOp C o σ e ro := by
    first
      | (apply lop_bo1k (.int .u8 120); (focus rfl); (focus rfl); (focus rfl); (focus exact inferInstance); (focus exact inferInstance); (focus exact inferInstance); (focus rfl); (focus rfl); (focus rfl))
      | (apply lop_cv_bb; (focus rfl); (focus exact inferInstance); (focus exact inferInstance); (focus rfl); (focus rfl); (focus rfl); (focus rfl); (focus decide); (focus rfl))
      | exact lopB
      | fail) : LOp C o σ e ro := h
section steps
variable {C : Ctx} {ops : Array Oper} {o : Oper} {rest : List Oper} {K : St → Prop} {σ : St} {e : Eff} {ro : Nat → Bool} {W : List (Nat × Nat)} {i : Nat}
theorem rnC {d : Nat} (hk : RunN C ops rest K (e.app (some d) σ)) (hg : Guard ops σ o true := by first | exact gd_n rfl rfl | exact gd_t rfl rfl rfl rfl | exact gd_t rfl rfl rfl (by assumption)) (hd : o.dst = some d := by rfl) (h : LOp C o σ e ro := by exact lopC) : RunN C ops (o :: rest) K σ := rn_any hg hd h hk
theorem rkC {d : Nat} (hk : RunK C ops W (i + 1) rest K (e.app (some d) σ)) (hg : Guard ops σ o true := by first | exact gd_n rfl rfl | exact gd_t rfl rfl rfl rfl | exact gd_t rfl rfl rfl (by assumption)) (hd' : o.dst = some d := by rfl) (hd : dOk C o.dst = true := by rfl) (h : LOp C o σ e ro := by exact lopC)
    (hro : ∀ x, ro x = true → okObj ops W i x = true := by first | exact fun _ => ro_none | exact ro_one rfl | exact ro_one (by kernel_rfl) | exact ro_kIn (by decide)) (hob : ∀ p ∈ e.obj, (i, p.1) ∈ W := by first | exact ob_none | exact ob_one (by decide) | decide) : RunK C ops W i (o :: rest) K σ := rk_wr hg hd' hd h hro hob hk
end steps

/-- what the fixed calls come to -/
theorem alive_facts : ∃ T U : List Nat, T = ofF (List.replicate 16 []) ∧ U = withF T 3 [120] ∧ T.length = 672 ∧ U.length = 672 ∧ rightF T = true ∧ rightF U = true ∧ row T 0 ≠ row U 0 ∧ row T 8 = sum [0] ∧ row U 8 = sum [0, 120] ∧ (belowF T 1).length = 129 := by
  obtain ⟨T, hT⟩ : ∃ T, T = ofF (List.replicate 16 []) := ⟨_, rfl⟩
  obtain ⟨U, hU⟩ : ∃ U, U = withF T ((3 : Nat) : Int) [120] := ⟨_, rfl⟩
  have lT : T.length = 672 := by rw [hT]; exact ofF_len _
  have lU : U.length = 672 := by rw [hU]; exact withF_len lT
  have rT : rightF T = true := by rw [hT]; exact of_right _
  have rU : rightF U = true := by rw [hU]; exact with_right lT rT (by omega)
  have a : ∀ i, i < 16 → row T (5 + i) = k_d0 := fun i hi => by
    rw [hT, of_row _ hi, ← kv_d0]
    have : (List.replicate 16 ([] : List Nat)).getD i default = [] := by
      rw [List.getD_eq_getElem?_getD, List.getElem?_replicate, if_pos hi]; rfl
    rw [this]; rfl
  have b : ∀ p, 1 ≤ p → p ≤ 4 → row T p = k_d1 := fun p h1 h2 => by
    rw [right_row rT (by omega), below4 h2]
    have e : ∀ j, 4 * p + 1 ≤ j → j ≤ 4 * p + 4 → row T j = k_d0 := fun j h3 h4 => by
      have := a (j - 5) (by omega); rwa [show 5 + (j - 5) = j by omega] at this
    rw [e _ (by omega) (by omega), e _ (by omega) (by omega), e _ (by omega) (by omega), e _ (by omega) (by omega), kv_d1]
  have c : row T 0 = k_r := by
    rw [right_row rT (by omega), below4 (by omega), b _ (by omega) (by omega), b _ (by omega) (by omega), b _ (by omega) (by omega), b _ (by omega) (by omega), kv_r]
  have x8 : row U 8 = k_dx := by
    have := with_leaf (T := T) (n := 3) (b := [120]) lT (by omega)
    rw [← hU] at this
    rw [this, ← kv_dx]; rfl
  have same : ∀ p, p ≠ 0 → p ≠ 8 → p ≠ 1 → row U p = row T p := fun p h1 h2 h3 => by
    rw [hU]; exact with_row lT (by omega) h1 h2 h3
  have u1 : row U 1 = k_d1x := by
    rw [right_row rU (by omega), below4 (by omega), same _ (by omega) (by omega) (by omega), same _ (by omega) (by omega) (by omega), same _ (by omega) (by omega) (by omega), x8, a 0 (by omega), a 1 (by omega), a 2 (by omega), kv_d1x]
  have u0 : row U 0 = k_rx := by
    rw [right_row rU (by omega), below4 (by omega), u1, same _ (by omega) (by omega) (by omega), same _ (by omega) (by omega) (by omega), same _ (by omega) (by omega) (by omega), b _ (by omega) (by omega), b _ (by omega) (by omega), b _ (by omega) (by omega), kv_rx]
  refine ⟨T, U, hT, hU, lT, lU, rT, rU, ?_, ?_, ?_, ?_⟩
  · rw [c, u0]; exact kv_ne
  · rw [a 3 (by omega), kv_d0]
  · rw [x8, kv_dx]
  · unfold belowF; rw [if_pos (by omega)]; exact belowTo_len lT (by omega) 4 (by omega)

theorem alive_c : PCall Try.prog 41 [] (.p (.b true)) := by
  refine pcall_of Try.func41 rfl (fun w0 F S0 M0 => ?_)
  obtain ⟨T, U, hT, hU, lT, lU, rT, rU, h0, h8, hx8, hb⟩ := alive_facts
  haveI i1 : PC Try.prog 50 [.a [.p (.v (.slice none 0 0)), .p (.v (.slice none 0 0)), .p (.v (.slice none 0 0)), .p (.v (.slice none 0 0)), .p (.v (.slice none 0 0)), .p (.v (.slice none 0 0)), .p (.v (.slice none 0 0)), .p (.v (.slice none 0 0)), .p (.v (.slice none 0 0)), .p (.v (.slice none 0 0)), .p (.v (.slice none 0 0)), .p (.v (.slice none 0 0)), .p (.v (.slice none 0 0)), .p (.v (.slice none 0 0)), .p (.v (.slice none 0 0)), .p (.v (.slice none 0 0))]] True (tv T) := ⟨fun _ => by
    rw [hT]
    refine PCall.ent (bs := [txs (List.replicate 16 [])]) (of_c _ ⟨by simp, fun b hb => by rw [List.eq_of_mem_replicate hb]; simp⟩) (.cons ?_ .nil)
    exact Ent1.nils (es := 1) (n := 16) (ls := [])⟩
  haveI i2 : PC Try.prog 53 [tv T, .p (.i 3), .p (.sl 1 (([120] : List Int).map fun n => [PVal.v (.int .u8 n)]) false)] True (tv U) := ⟨fun _ => by rw [hU]; exact with_c T 3 [120] false ⟨lT, by simp⟩⟩
  obtain ⟨D, hD⟩ : ∃ D, D = sum [0] := ⟨_, rfl⟩
  obtain ⟨X, hX⟩ : ∃ X, X = sum [0, 120] := ⟨_, rfl⟩
  haveI i3 : PC Try.prog 64 [.p (.sl 1 [[.sl 1 [[.v (.int .u8 0)]] true]] true)] True (.a (D.map bc)) := ⟨fun _ => by rw [hD]; exact sum1_c [0] true true (by simp)⟩
  haveI i4 : PC Try.prog 64 [.p (.sl 1 [[.sl 1 [[.v (.int .u8 0)]] true], [.sl 1 [[.v (.int .u8 120)]] false]] true)] True (.a (X.map bc)) := ⟨fun _ => by rw [hX]; exact sum2_c [0] [120] true false true (by simp)⟩
  have lD : D.length = 32 := by rw [hD]; exact sumLen _
  have lX : X.length = 32 := by rw [hX]; exact sumLen _
  rw [← hD] at h8; rw [← hX] at hx8
  clear hT hU hD hX
  obtain ⟨Kd, hKd⟩ : ∃ Kd, Kd = kidsF 2 := ⟨_, rfl⟩
  haveI i5 : PC Try.prog 43 [.p (.i 2)] True (ints Kd false) := ⟨fun _ => by rw [hKd]; exact kids_c 2⟩
  have k0 : Kd.length = 4 := by rw [hKd]; rfl
  have k1 : decide ((Kd.length : Int) = 4) = true := by rw [hKd]; rfl
  have k2 : decide (Kd.getD (Int.toNat 0) default = 9) = true := by rw [hKd]; rfl
  have k3 : decide (Kd.getD (Int.toNat 3) default = 12) = true := by rw [hKd]; rfl
  have e0 : (!decide (rowOf 32 T (Int.toNat 0) = rowOf 32 U (Int.toNat 0))) = true := by
    have : decide (rowOf 32 T (Int.toNat 0) = rowOf 32 U (Int.toNat 0)) = false := decide_eq_false h0
    rw [this]; rfl
  have e8 : decide (rowOf 32 T (Int.toNat 8) = D) = true := decide_eq_true h8
  have ex : decide (rowOf 32 U (Int.toNat 8) = X) = true := decide_eq_true hx8
  have eb : decide (((belowF T 1).length : Int) = 129) = true := decide_eq_true (by omega)
  repeat' (first
      | refine rnC ?_
      | refine rnSB ?_
      | refine rnG ?_
      | refine rnU ?_
      | ((fail_if_success (refine rnKn ?_)); refine rnP ?_ ?_ <;> (intro hq; try (have hq' := hq; simp only [hqs] at hq')))
      | refine rkC ?_
      | refine rkSB ?_
      | refine rkF ?_
      | refine rkU ?_
      | ((fail_if_success (refine rkKn ?_)); refine rkP ?_ ?_ <;> (intro hq; try (have hq' := hq; simp only [hqs] at hq')))
      | refine stp ?_
      | refine ifT ?_
      | refine ifF ?_
      | (refine ifQ ?_ ?_ <;> (try (intro hn)))
      | (refine ifB ?_ ?_ <;> (intro hq; try (have hq' := hq; simp only [hqs] at hq'))))
  refine aws_draws [(66, 77), (67, 77)] mixed (by kernel_rfl) ?_
  repeat' (first
      | refine rk_nil ?_
      | refine rkC ?_
      | refine rkSB ?_
      | refine rkF ?_
      | refine rkU ?_
      | ((fail_if_success (refine rkKn ?_)); refine rkP ?_ ?_ <;> (intro hq; try (have hq' := hq; simp only [hqs] at hq'))))
  repeat' (first
      | refine rnC ?_
      | refine rnSB ?_
      | refine rnG ?_
      | refine rnU ?_
      | ((fail_if_success (refine rnKn ?_)); refine rnP ?_ ?_ <;> (intro hq; try (have hq' := hq; simp only [hqs] at hq')))
      | refine rkC ?_
      | refine rkSB ?_
      | refine rkF ?_
      | refine rkU ?_
      | ((fail_if_success (refine rkKn ?_)); refine rkP ?_ ?_ <;> (intro hq; try (have hq' := hq; simp only [hqs] at hq')))
      | refine stp ?_
      | refine ifT ?_
      | refine ifF ?_
      | (refine ifQ ?_ ?_ <;> (try (intro hn)))
      | (refine ifB ?_ ?_ <;> (intro hq; try (have hq' := hq; simp only [hqs] at hq'))))
  exact rt1 rfl rfl finS_p (rb eb.symm)
instance : PC Try.prog 41 [] True (.p (.b true)) := ⟨fun _ => alive_c⟩
end Go.Proofs.Ytbhcdkhejgkhaaa.Tr
