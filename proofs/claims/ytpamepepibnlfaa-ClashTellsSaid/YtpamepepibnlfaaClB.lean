/- clashes: the first one -/
import Derived.Test.YtpamepepibnlfaaClA
import Derived.Test.YtpamepepibnlfaaClP
namespace Go.Proofs.Ytpamepepibnlfaa.Cl
open Go Go.RowKit Go.Aw Go.Aw.Sha Go.Aw.Tree Go.Aw.Clash Go.Proofs.Ytpamepepibnlfaa.Sh Go.Proofs.Ytpamepepibnlfaa.Tr
set_option linter.unusedVariables false
set_option linter.unusedSimpArgs false
set_option maxRecDepth 8000
attribute [local irreducible] sum
set_option maxHeartbeats 4000000
theorem pmm {α : Type} {l : List α} {f : α → PVal} : (l.map fun a => AC.p (f a)) = (l.map f).map AC.p := by rw [List.map_map]; rfl
namespace Bst
theorem lop_callv14 {C : Ctx} {o : Oper} {σ : St} {f : FuncId} {x x0 : Operand} {ts : Array TypeId} {c0 c1 c2 c3 : PVal} {a0 r : AV} {pre : Prop} (ho : o.op = .call ⟨.value x, #[x0], ts⟩) (hx : σ.look x = .p (.fnv f [c0, c1, c2, c3])) (hfn : FnT C.P f) (h0 : σ.look x0 = a0) (hp : PureAVs [a0]) (hc : PC C.P f [a0, .p c0, .p c1, .p c2, .p c3] pre r) (hpre : pre) (hd : dOk C o.dst = true) : LOp C o σ ⟨r, []⟩ (fun _ => false) :=
  lop_callv1 (caps := [c0, c1, c2, c3]) ho hx hfn h0 hp hc hpre hd
theorem lopC {C : Ctx} {o : Oper} {σ : St} {e : Eff} {ro : Nat → Bool} (h : LOp C o σ e ro := by
    first
      | (apply lop_mf4; (focus rfl); (focus rfl); (focus rfl); (focus rfl); (focus exact pmm); (focus rfl); (focus rfl); (focus rfl); (focus exact pmm); (focus rfl); (focus rfl); (focus rfl); (focus exact pmm); (focus rfl); (focus rfl); (focus rfl); (focus exact pmm); (focus decide); (focus rfl))
      | (apply lop_callv14; (focus rfl); (focus rfl); (focus exact inferInstance); (focus first | exact lk_o rfl | exact lk_a rfl); (focus exact inferInstance); (focus exact inferInstance); (focus (repeat' (first | assumption | refine And.intro ?_ ?_ | omega))); (focus rfl))
      | exact lopZ
      | fail) : LOp C o σ e ro := h
section steps
variable {C : Ctx} {ops : Array Oper} {o : Oper} {rest : List Oper} {K : St → Prop} {σ : St} {e : Eff} {ro : Nat → Bool} {W : List (Nat × Nat)} {i : Nat}
theorem rnC {d : Nat} (hk : RunN C ops rest K (e.app (some d) σ)) (hg : Guard ops σ o true := by first | exact gd_n rfl rfl | exact gd_t rfl rfl rfl rfl | exact gd_t rfl rfl rfl (by assumption)) (hd : o.dst = some d := by rfl) (h : LOp C o σ e ro := by exact lopC) : RunN C ops (o :: rest) K σ := rn_any hg hd h hk
theorem rkC {d : Nat} (hk : RunK C ops W (i + 1) rest K (e.app (some d) σ)) (hg : Guard ops σ o true := by first | exact gd_n rfl rfl | exact gd_t rfl rfl rfl rfl | exact gd_t rfl rfl rfl (by assumption)) (hd' : o.dst = some d := by rfl) (hd : dOk C o.dst = true := by rfl) (h : LOp C o σ e ro := by exact lopC)
    (hro : ∀ x, ro x = true → okObj ops W i x = true := by first | exact fun _ => ro_none | exact ro_one rfl | exact ro_one (by kernel_rfl) | exact ro_kIn (by decide)) (hob : ∀ p ∈ e.obj, (i, p.1) ∈ W := by first | exact ob_none | exact ob_one (by decide) | decide) : RunK C ops W i (o :: rest) K σ := rk_wr hg hd' hd h hro hob hk
end steps
end Bst
open Bst
theorem at_w (ls ms : List (List Nat)) (h : few ls ∧ few ms ∧ okT ls ∧ okT ms) : PCall Try.prog 21 [txs ls, txs ms] (.p (.i (atF ls ms (ofF ls) (ofF ms)))) := by
  refine pcall_of Try.func21 rfl (fun w0 F S0 M0 => ?_)
  obtain ⟨hl, hm, ol, om⟩ := h
  have o1 := okB_made ol (okB_of ls)
  have o2 := okB_made om (okB_of ms)
  have hl16 := hl.1
  have hm16 := hm.1
  have hof := ofF_len ls
  have hog := ofF_len ms
  unfold atF
  obtain ⟨T, hT⟩ : ∃ T, T = ofF ls := ⟨_, rfl⟩
  obtain ⟨U, hU⟩ : ∃ U, U = ofF ms := ⟨_, rfl⟩
  haveI : PC Try.prog 26 [txs ls] True (tv T) := ⟨fun _ => by rw [hT]; exact of_c ls hl⟩
  haveI : PC Try.prog 26 [txs ms] True (tv U) := ⟨fun _ => by rw [hU]; exact of_c ms hm⟩
  rw [← hT] at hof o1 ⊢
  rw [← hU] at hog o2 ⊢
  clear hT hU
  obtain ⟨A, hA⟩ : ∃ A, A = atFrom ls ms T U 0 21 := ⟨_, rfl⟩
  rw [← hA]
  repeat' (first
      | refine rnC ?_
      | refine rnSB ?_
      | refine rnG ?_
      | refine rnU ?_
      | ((fail_if_success (refine rnKn ?_)); refine rnP ?_ ?_ <;> (intro hq; try (have hq' := hq; simp only [hqs] at hq')))
      | refine rkC ?_
      | refine rkSB ?_
      | refine rkF ?_
      | refine rkU ?_
      | ((fail_if_success (refine rkKn ?_)); refine rkP ?_ ?_ <;> (intro hq; try (have hq' := hq; simp only [hqs] at hq')))
      | refine stp ?_
      | refine ifT ?_
      | refine ifF ?_
      | (refine ifQ ?_ ?_ <;> (try (intro hn)))
      | (refine ifB ?_ ?_ <;> (intro hq; try (have hq' := hq; simp only [hqs] at hq'))))
  refine aws_draws [(4, 5), (5, 6), (6, 5), (7, 6)] mixed (by kernel_rfl) ?_
  repeat' (first
      | refine rk_nil ?_
      | refine rkC ?_
      | refine rkSB ?_
      | refine rkF ?_
      | refine rkU ?_
      | ((fail_if_success (refine rkKn ?_)); refine rkP ?_ ?_ <;> (intro hq; try (have hq' := hq; simp only [hqs] at hq'))))
  repeat' (first
      | refine rnC ?_
      | refine rnSB ?_
      | refine rnG ?_
      | refine rnU ?_
      | ((fail_if_success (refine rnKn ?_)); refine rnP ?_ ?_ <;> (intro hq; try (have hq' := hq; simp only [hqs] at hq')))
      | refine rkC ?_
      | refine rkSB ?_
      | refine rkF ?_
      | refine rkU ?_
      | ((fail_if_success (refine rkKn ?_)); refine rkP ?_ ?_ <;> (intro hq; try (have hq' := hq; simp only [hqs] at hq')))
      | refine stp ?_
      | refine ifT ?_
      | refine ifF ?_
      | (refine ifQ ?_ ?_ <;> (try (intro hn)))
      | (refine ifB ?_ ?_ <;> (intro hq; try (have hq' := hq; simp only [hqs] at hq'))))
  refine aws_loopS [4, 8, 14, 15, 16, 17, 18, 19, 20, 21] [] (fun (i : Nat) => [(14, .p (.i i))]) (fun _ => []) (fun i => i ≤ 21 ∧ A = atFrom ls ms T U i (21 - i)) (fun i => 21 - i) 0 ⟨Nat.zero_le _, hA⟩ (by exact knA) (by exact knA) ?_
  rintro i β γ ⟨hi, hx⟩
  by_cases h21 : i < 21
  · have hlt : decide ((i : Int) < 21) = true := decide_eq_true (by omega)
    have p1 := o1 i
    have p2 := o2 i
    rw [show 21 - i = (21 - (i + 1)) + 1 by omega, atFrom] at hx
    cases hv : clashB ls ms T U i with
    | true =>
      have hd : clashB ls ms T U (i : Int).toNat = true := by rw [Int.toNat_natCast]; exact hv
      rw [hv, if_pos rfl] at hx
      rw [hx]
      repeat' (first
          | refine rnC ?_
          | refine rnSB ?_
          | refine rnG ?_
          | refine rnU ?_
          | ((fail_if_success (refine rnKn ?_)); refine rnP ?_ ?_ <;> (intro hq; try (have hq' := hq; simp only [hqs] at hq')))
          | refine rkC ?_
          | refine rkSB ?_
          | refine rkF ?_
          | refine rkU ?_
          | ((fail_if_success (refine rkKn ?_)); refine rkP ?_ ?_ <;> (intro hq; try (have hq' := hq; simp only [hqs] at hq')))
          | refine stp ?_
          | refine ifT ?_
          | refine ifF ?_
          | (refine ifQ ?_ ?_ <;> (try (intro hn)))
          | (refine ifB ?_ ?_ <;> (intro hq; try (have hq' := hq; simp only [hqs] at hq'))))
      exact rt1 rfl rfl finS_p rfl
    | false =>
      have hd : clashB ls ms T U (i : Int).toNat = false := by rw [Int.toNat_natCast]; exact hv
      rw [hv, if_neg (by simp)] at hx
      repeat' (first
          | refine rnC ?_
          | refine rnSB ?_
          | refine rnG ?_
          | refine rnU ?_
          | ((fail_if_success (refine rnKn ?_)); refine rnP ?_ ?_ <;> (intro hq; try (have hq' := hq; simp only [hqs] at hq')))
          | refine rkC ?_
          | refine rkSB ?_
          | refine rkF ?_
          | refine rkU ?_
          | ((fail_if_success (refine rkKn ?_)); refine rkP ?_ ?_ <;> (intro hq; try (have hq' := hq; simp only [hqs] at hq')))
          | refine stp ?_
          | refine ifT ?_
          | refine ifF ?_
          | (refine ifQ ?_ ?_ <;> (try (intro hn)))
          | (refine ifB ?_ ?_ <;> (intro hq; try (have hq' := hq; simp only [hqs] at hq'))))
      exact ⟨i + 1, _, by omega, ⟨by omega, hx⟩, .refl, by exact frA⟩
  · have hlt : decide ((i : Int) < 21) = false := decide_eq_false (by omega)
    rw [show 21 - i = 0 by omega, atFrom] at hx
    rw [hx]
    repeat' (first
        | refine rnC ?_
        | refine rnSB ?_
        | refine rnG ?_
        | refine rnU ?_
        | ((fail_if_success (refine rnKn ?_)); refine rnP ?_ ?_ <;> (intro hq; try (have hq' := hq; simp only [hqs] at hq')))
        | refine rkC ?_
        | refine rkSB ?_
        | refine rkF ?_
        | refine rkU ?_
        | ((fail_if_success (refine rkKn ?_)); refine rkP ?_ ?_ <;> (intro hq; try (have hq' := hq; simp only [hqs] at hq')))
        | refine stp ?_
        | refine ifT ?_
        | refine ifF ?_
        | (refine ifQ ?_ ?_ <;> (try (intro hn)))
        | (refine ifB ?_ ?_ <;> (intro hq; try (have hq' := hq; simp only [hqs] at hq'))))
    exact rt1 rfl rfl finS_p rfl
instance {ls ms : List (List Nat)} : PC Try.prog 21 [txs ls, txs ms] (few ls ∧ few ms ∧ okT ls ∧ okT ms) (.p (.i (atF ls ms (ofF ls) (ofF ms)))) := ⟨at_w ls ms⟩
end Go.Proofs.Ytpamepepibnlfaa.Cl
