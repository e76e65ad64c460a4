/- clashes: the first one; clashes: what is extracted; clashes, the laws: fixed texts, in plain Lean -/
import Derived.Test.YtclcfjejpogdlaaGreatCS42
import Derived.Test.YtclcfjejpogdlaaGreatCS37
namespace Go.Proofs.YtclcfjejpogdlaaGreat.Cl
open Go Go.RowKit Go.Aw Go.Aw.Sha Go.Aw.Tree Go.Aw.Clash Go.Proofs.YtclcfjejpogdlaaGreat.Sh Go.Proofs.YtclcfjejpogdlaaGreat.Tr
set_option linter.unusedVariables false
set_option linter.unusedSimpArgs false
set_option maxRecDepth 8000
attribute [local irreducible] sum
set_option maxHeartbeats 4000000
theorem pmm {α : Type} {l : List α} {f : α → PVal} : (l.map fun a => AC.p (f a)) = (l.map f).map AC.p := by rw [List.map_map]; rfl
namespace Bst
theorem lop_callv14 {C : Ctx} {o : Oper} {σ : St} {f : FuncId} {x x0 : Operand} {ts : Array TypeId} {c0 c1 c2 c3 : PVal} {a0 r : AV} {pre : Prop} (ho : o.op = .call ⟨.value x, #[x0], ts⟩) (hx : σ.look x = .p (.fnv f [c0, c1, c2, c3])) (hfn : FnT C.P f) (h0 : σ.look x0 = a0) (hp : PureAVs [a0]) (hc : PC C.P f [a0, .p c0, .p c1, .p c2, .p c3] pre r) (hpre : pre) (hd : dOk C o.dst = true) : LOp C o σ ⟨r, []⟩ (fun _ => false) :=
  lop_callv1 (caps := [c0, c1, c2, c3]) ho hx hfn h0 hp hc hpre hd
theorem lopC {C : Ctx} {o : Oper} {σ : St} {e : Eff} {ro : Nat → Bool} (h : LOp C o σ e ro := by
    first | (apply lop_mf4; (focus rfl); (focus rfl); (focus rfl); (focus rfl); (focus exact pmm); (focus rfl); (focus rfl); (focus rfl); (focus exact pmm); (focus rfl); (focus rfl); (focus rfl); (focus exact pmm); (focus rfl); (focus rfl); (focus rfl); (focus exact pmm); (focus decide); (focus rfl)) | (apply lop_callv14; (focus rfl); (focus rfl); (focus exact inferInstance); (focus first | exact lk_o rfl | exact lk_a rfl); (focus exact inferInstance); (focus exact inferInstance); (focus (repeat' (first | assumption | refine And.intro ?_ ?_ | omega))); (focus rfl)) | exact lopZ | fail) : LOp C o σ e ro := h
section steps
variable {C : Ctx} {ops : Array Oper} {o : Oper} {rest : List Oper} {K : St → Prop} {σ : St} {e : Eff} {ro : Nat → Bool} {W : List (Nat × Nat)} {i : Nat}
theorem rnC {d : Nat} (hk : RunN C ops rest K (e.app (some d) σ)) (hg : Guard ops σ o true := by first | exact gd_n rfl rfl | exact gd_t rfl rfl rfl rfl | exact gd_t rfl rfl rfl (by assumption)) (hd : o.dst = some d := by rfl) (h : LOp C o σ e ro := by exact lopC) : RunN C ops (o :: rest) K σ := rn_any hg hd h hk
theorem rkC {d : Nat} (hk : RunK C ops W (i + 1) rest K (e.app (some d) σ)) (hg : Guard ops σ o true := by first | exact gd_n rfl rfl | exact gd_t rfl rfl rfl rfl | exact gd_t rfl rfl rfl (by assumption)) (hd' : o.dst = some d := by rfl) (hd : dOk C o.dst = true := by rfl) (h : LOp C o σ e ro := by exact lopC)
    (hro : ∀ x, ro x = true → okObj ops W i x = true := by first | exact fun _ => ro_none | exact ro_one rfl | exact ro_one (by kernel_rfl) | exact ro_kIn (by decide)) (hob : ∀ p ∈ e.obj, (i, p.1) ∈ W := by first | exact ob_none | exact ob_one (by decide) | decide) : RunK C ops W i (o :: rest) K σ := rk_wr hg hd' hd h hro hob hk
end steps
end Bst
open Bst
theorem at_w (ls ms : List (List Nat)) (h : few ls ∧ few ms ∧ okT ls ∧ okT ms) : PCall Tryz.prog 78 [txs ls, txs ms] (.p (.i (atF ls ms (ofF ls) (ofF ms)))) := by
  refine pcall_of Tryz.func78 rfl (fun w0 F S0 M0 => ?_)
  obtain ⟨hl, hm, ol, om⟩ := h
  have o1 := okB_made ol (okB_of ls)
  have o2 := okB_made om (okB_of ms)
  have hl16 := hl.1
  have hm16 := hm.1
  have hof := ofF_len ls
  have hog := ofF_len ms
  unfold atF
  obtain ⟨T, hT⟩ : ∃ T, T = ofF ls := ⟨_, rfl⟩
  obtain ⟨U, hU⟩ : ∃ U, U = ofF ms := ⟨_, rfl⟩
  haveI : PC Tryz.prog 90 [txs ls] True (tv T) := ⟨fun _ => by rw [hT]; exact of_c ls hl⟩
  haveI : PC Tryz.prog 90 [txs ms] True (tv U) := ⟨fun _ => by rw [hU]; exact of_c ms hm⟩
  rw [← hT] at hof o1 ⊢
  rw [← hU] at hog o2 ⊢
  clear hT hU
  obtain ⟨A, hA⟩ : ∃ A, A = atFrom ls ms T U 0 21 := ⟨_, rfl⟩
  rw [← hA]
  repeat' (first | refine rnC ?_ | refine rnSB ?_ | refine rnG ?_ | refine rnU ?_ | ((fail_if_success (refine rnKn ?_)); refine rnP ?_ ?_ <;> (intro hq; try (have hq' := hq; simp only [hqs] at hq'))) | refine rkC ?_ | refine rkSB ?_ | refine rkF ?_ | refine rkU ?_ | ((fail_if_success (refine rkKn ?_)); refine rkP ?_ ?_ <;> (intro hq; try (have hq' := hq; simp only [hqs] at hq'))) | refine stp ?_ | refine ifT ?_ | refine ifF ?_ | (refine ifQ ?_ ?_ <;> (try (intro hn))) | (refine ifB ?_ ?_ <;> (intro hq; try (have hq' := hq; simp only [hqs] at hq'))))
  refine aws_draws [(4, 5), (5, 6), (6, 5), (7, 6)] mixed (by kernel_rfl) ?_
  repeat' (first | refine rk_nil ?_ | refine rkC ?_ | refine rkSB ?_ | refine rkF ?_ | refine rkU ?_ | ((fail_if_success (refine rkKn ?_)); refine rkP ?_ ?_ <;> (intro hq; try (have hq' := hq; simp only [hqs] at hq'))))
  repeat' (first | refine rnC ?_ | refine rnSB ?_ | refine rnG ?_ | refine rnU ?_ | ((fail_if_success (refine rnKn ?_)); refine rnP ?_ ?_ <;> (intro hq; try (have hq' := hq; simp only [hqs] at hq'))) | refine rkC ?_ | refine rkSB ?_ | refine rkF ?_ | refine rkU ?_ | ((fail_if_success (refine rkKn ?_)); refine rkP ?_ ?_ <;> (intro hq; try (have hq' := hq; simp only [hqs] at hq'))) | refine stp ?_ | refine ifT ?_ | refine ifF ?_ | (refine ifQ ?_ ?_ <;> (try (intro hn))) | (refine ifB ?_ ?_ <;> (intro hq; try (have hq' := hq; simp only [hqs] at hq'))))
  refine aws_loopS [4, 8, 14, 15, 16, 17, 18, 19, 20, 21] [] (fun (i : Nat) => [(14, .p (.i i))]) (fun _ => []) (fun i => i ≤ 21 ∧ A = atFrom ls ms T U i (21 - i)) (fun i => 21 - i) 0 ⟨Nat.zero_le _, hA⟩ (by exact knA) (by exact knA) ?_
  rintro i β γ ⟨hi, hx⟩
  by_cases h21 : i < 21
  · have hlt : decide ((i : Int) < 21) = true := decide_eq_true (by omega)
    have p1 := o1 i
    have p2 := o2 i
    rw [show 21 - i = (21 - (i + 1)) + 1 by omega, atFrom] at hx
    cases hv : clashB ls ms T U i with
    | true =>
      have hd : clashB ls ms T U (i : Int).toNat = true := by rw [Int.toNat_natCast]; exact hv
      rw [hv, if_pos rfl] at hx
      rw [hx]
      repeat' (first | refine rnC ?_ | refine rnSB ?_ | refine rnG ?_ | refine rnU ?_ | ((fail_if_success (refine rnKn ?_)); refine rnP ?_ ?_ <;> (intro hq; try (have hq' := hq; simp only [hqs] at hq'))) | refine rkC ?_ | refine rkSB ?_ | refine rkF ?_ | refine rkU ?_ | ((fail_if_success (refine rkKn ?_)); refine rkP ?_ ?_ <;> (intro hq; try (have hq' := hq; simp only [hqs] at hq'))) | refine stp ?_ | refine ifT ?_ | refine ifF ?_ | (refine ifQ ?_ ?_ <;> (try (intro hn))) | (refine ifB ?_ ?_ <;> (intro hq; try (have hq' := hq; simp only [hqs] at hq'))))
      exact rt1 rfl rfl finS_p rfl
    | false =>
      have hd : clashB ls ms T U (i : Int).toNat = false := by rw [Int.toNat_natCast]; exact hv
      rw [hv, if_neg (by simp)] at hx
      repeat' (first | refine rnC ?_ | refine rnSB ?_ | refine rnG ?_ | refine rnU ?_ | ((fail_if_success (refine rnKn ?_)); refine rnP ?_ ?_ <;> (intro hq; try (have hq' := hq; simp only [hqs] at hq'))) | refine rkC ?_ | refine rkSB ?_ | refine rkF ?_ | refine rkU ?_ | ((fail_if_success (refine rkKn ?_)); refine rkP ?_ ?_ <;> (intro hq; try (have hq' := hq; simp only [hqs] at hq'))) | refine stp ?_ | refine ifT ?_ | refine ifF ?_ | (refine ifQ ?_ ?_ <;> (try (intro hn))) | (refine ifB ?_ ?_ <;> (intro hq; try (have hq' := hq; simp only [hqs] at hq'))))
      exact ⟨i + 1, _, by omega, ⟨by omega, hx⟩, .refl, by exact frA⟩
  · have hlt : decide ((i : Int) < 21) = false := decide_eq_false (by omega)
    rw [show 21 - i = 0 by omega, atFrom] at hx
    rw [hx]
    repeat' (first | refine rnC ?_ | refine rnSB ?_ | refine rnG ?_ | refine rnU ?_ | ((fail_if_success (refine rnKn ?_)); refine rnP ?_ ?_ <;> (intro hq; try (have hq' := hq; simp only [hqs] at hq'))) | refine rkC ?_ | refine rkSB ?_ | refine rkF ?_ | refine rkU ?_ | ((fail_if_success (refine rkKn ?_)); refine rkP ?_ ?_ <;> (intro hq; try (have hq' := hq; simp only [hqs] at hq'))) | refine stp ?_ | refine ifT ?_ | refine ifF ?_ | (refine ifQ ?_ ?_ <;> (try (intro hn))) | (refine ifB ?_ ?_ <;> (intro hq; try (have hq' := hq; simp only [hqs] at hq'))))
    exact rt1 rfl rfl finS_p rfl
end Go.Proofs.YtclcfjejpogdlaaGreat.Cl
namespace Go.Proofs.YtclcfjejpogdlaaGreat.Cl
open Go Go.RowKit Go.Aw Go.Aw.Sha Go.Aw.Tree Go.Aw.Clash Go.Proofs.YtclcfjejpogdlaaGreat.Sh Go.Proofs.YtclcfjejpogdlaaGreat.Tr
set_option linter.unusedVariables false
set_option linter.unusedSimpArgs false
set_option maxRecDepth 8000
attribute [local irreducible] sum
set_option maxHeartbeats 4000000
abbrev exV (x : List Nat × List Nat × Bool) : AV := .tup [.one (.p (bytesP x.1 false)), .one (.p (bytesP x.2.1 false)), .one (.p (.b x.2.2))]
theorem extract_w (ls ms : List (List Nat)) (h : few ls ∧ few ms ∧ okT ls ∧ okT ms) : PCall Tryz.prog 18 [txs ls, txs ms] (exV (exF ls ms)) := by
  refine pcall_of Tryz.func18 rfl (fun w0 F S0 M0 => ?_)
  have hl16 := h.1.1
  have hm16 := h.2.1.1
  have hl := h.1
  have hm := h.2.1
  unfold exF
  obtain ⟨n, hn⟩ : ∃ n, n = atF ls ms (ofF ls) (ofF ms) := ⟨_, rfl⟩
  haveI : PC Tryz.prog 78 [txs ls, txs ms] True (.p (.i n)) := ⟨fun _ => by rw [hn]; exact at_w ls ms h⟩
  rw [← hn]
  by_cases h0 : n < 0
  · have hd : decide (n < 0) = true := decide_eq_true h0
    rw [if_pos h0]
    repeat' (first | refine rnB ?_ | refine rnSB ?_ | refine rnG ?_ | refine rnU ?_ | ((fail_if_success (refine rnKn ?_)); refine rnP ?_ ?_ <;> (intro hq; try (have hq' := hq; simp only [hqs] at hq'))) | refine rkB ?_ | refine rkSB ?_ | refine rkF ?_ | refine rkU ?_ | ((fail_if_success (refine rkKn ?_)); refine rkP ?_ ?_ <;> (intro hq; try (have hq' := hq; simp only [hqs] at hq'))) | refine stp ?_ | refine aws_draws [] mixed (by kernel_rfl) ?_ | refine ifT ?_ | refine ifF ?_ | (refine ifQ ?_ ?_ <;> (try (intro hn))) | (refine ifB ?_ ?_ <;> (intro hq; try (have hq' := hq; simp only [hqs] at hq'))))
    exact rt3 rfl rfl (.one .nil) rfl (.one .nil) rfl finS_p rfl
  · have hd : decide (n < 0) = false := decide_eq_false h0
    rw [if_neg h0]
    repeat' (first | refine rnB ?_ | refine rnSB ?_ | refine rnG ?_ | refine rnU ?_ | ((fail_if_success (refine rnKn ?_)); refine rnP ?_ ?_ <;> (intro hq; try (have hq' := hq; simp only [hqs] at hq'))) | refine rkB ?_ | refine rkSB ?_ | refine rkF ?_ | refine rkU ?_ | ((fail_if_success (refine rkKn ?_)); refine rkP ?_ ?_ <;> (intro hq; try (have hq' := hq; simp only [hqs] at hq'))) | refine stp ?_ | refine aws_draws [] mixed (by kernel_rfl) ?_ | refine ifT ?_ | refine ifF ?_ | (refine ifQ ?_ ?_ <;> (try (intro hn))) | (refine ifB ?_ ?_ <;> (intro hq; try (have hq' := hq; simp only [hqs] at hq'))))
    exact rt3 rfl rfl finS_p rfl finS_p rfl finS_p rfl
end Go.Proofs.YtclcfjejpogdlaaGreat.Cl
namespace Go.Proofs.YtclcfjejpogdlaaGreat.Cl
open Go Go.RowKit Go.Aw Go.Aw.Sha Go.Aw.Tree Go.Aw.Clash Go.Proofs.YtclcfjejpogdlaaGreat.Sh Go.Proofs.YtclcfjejpogdlaaGreat.Tr
set_option linter.unusedVariables false
set_option linter.unusedSimpArgs false
set_option maxRecDepth 8000
attribute [local irreducible] sum
set_option maxHeartbeats 4000000
theorem ex_none {ls ms : List (List Nat)} (hn : ∀ p, p < 21 → clashB ls ms (ofF ls) (ofF ms) p = false) : exF ls ms = ([], [], false) := by
  rcases at_cases ls ms with ⟨h, _⟩ | ⟨p, _, hp, h⟩
  · unfold exF; rw [h, if_pos (by decide)]
  · rw [hn p hp] at h; cases h
def fixA : List (List Nat) := List.replicate 16 []
def fixB : List (List Nat) := (List.replicate 16 []).set 3 [120]
theorem fixA_get {i : Nat} (h : i < 16) : fixA.getD i default = [] := by
  unfold fixA
  rw [List.getD_eq_getElem?_getD, List.getElem?_replicate, if_pos h]; rfl
theorem fixB_get {i : Nat} (h : i < 16) (h3 : i ≠ 3) : fixB.getD i default = [] := by
  unfold fixB
  rw [List.getD_eq_getElem?_getD, List.getElem?_set_ne (by omega), List.getElem?_replicate, if_pos h]; rfl
theorem fixB_3 : fixB.getD 3 default = [120] := by decide
theorem fixA_few : few fixA := ⟨by decide, fun b hb => by rw [List.eq_of_mem_replicate hb]; simp⟩
theorem fixB_few : few fixB := ⟨by decide, fun b hb => by
  rcases List.mem_or_eq_of_mem_set hb with h | h
  · rw [List.eq_of_mem_replicate h]; simp
  · rw [h]; simp⟩
theorem fixA_ok : okT fixA := fun b hb => by rw [List.eq_of_mem_replicate hb]; exact .nil
theorem fixB_ok : okT fixB := fun b hb => by
  rcases List.mem_or_eq_of_mem_set hb with h | h
  · rw [List.eq_of_mem_replicate h]; exact .nil
  · rw [h]; exact .cons (by decide) .nil
theorem fix_none : ∀ p, p < 21 → clashB fixA fixB (ofF fixA) (ofF fixB) p = false := by
  have a : ∀ i, i < 16 → row (ofF fixA) (5 + i) = k_d0 := fun i hi => by rw [of_row _ hi, ← kv_d0, fixA_get hi]; rfl
  have a' : ∀ i, i < 16 → i ≠ 3 → row (ofF fixB) (5 + i) = k_d0 := fun i hi h3 => by rw [of_row _ hi, ← kv_d0, fixB_get hi h3]; rfl
  have x8 : row (ofF fixB) 8 = k_dx := by
    have := of_row fixB (i := 3) (by omega)
    rw [fixB_3] at this
    rw [show (8 : Nat) = 5 + 3 from rfl, this, ← kv_dx]; rfl
  have e : ∀ j, 5 ≤ j → j < 21 → row (ofF fixA) j = k_d0 := fun j h1 h2 => by
    have := a (j - 5) (by omega); rwa [show 5 + (j - 5) = j by omega] at this
  have e' : ∀ j, 5 ≤ j → j < 21 → j ≠ 8 → row (ofF fixB) j = k_d0 := fun j h1 h2 h3 => by
    have := a' (j - 5) (by omega) (by omega); rwa [show 5 + (j - 5) = j by omega] at this
  have b : ∀ p, 1 ≤ p → p ≤ 4 → row (ofF fixA) p = k_d1 := fun p h1 h2 => by
    rw [right_row (of_right _) (by omega), below4 h2, e _ (by omega) (by omega), e _ (by omega) (by omega), e _ (by omega) (by omega), e _ (by omega) (by omega), kv_d1]
  have b' : ∀ p, 2 ≤ p → p ≤ 4 → row (ofF fixB) p = k_d1 := fun p h1 h2 => by
    rw [right_row (of_right _) (by omega), below4 h2, e' _ (by omega) (by omega) (by omega), e' _ (by omega) (by omega) (by omega), e' _ (by omega) (by omega) (by omega), e' _ (by omega) (by omega) (by omega), kv_d1]
  have u1 : row (ofF fixB) 1 = k_d1x := by
    rw [right_row (of_right _) (by omega), below4 (by omega), e' _ (by omega) (by omega) (by omega), e' _ (by omega) (by omega) (by omega), e' _ (by omega) (by omega) (by omega), x8, kv_d1x]
  have c : row (ofF fixA) 0 = k_r := by
    rw [right_row (of_right _) (by omega), below4 (by omega), b _ (by omega) (by omega), b _ (by omega) (by omega), b _ (by omega) (by omega), b _ (by omega) (by omega), kv_r]
  have u0 : row (ofF fixB) 0 = k_rx := by
    rw [right_row (of_right _) (by omega), below4 (by omega), u1, b' _ (by omega) (by omega), b' _ (by omega) (by omega), b' _ (by omega) (by omega), kv_rx]
  intro p hp
  unfold clashB
  have same : madeF fixA (ofF fixA) p = madeF fixB (ofF fixB) p → (decide (row (ofF fixA) p = row (ofF fixB) p) && !decide (madeF fixA (ofF fixA) p = madeF fixB (ofF fixB) p)) = false := fun h => by rw [decide_eq_true h]; simp
  have other : row (ofF fixA) p ≠ row (ofF fixB) p → (decide (row (ofF fixA) p = row (ofF fixB) p) && !decide (madeF fixA (ofF fixA) p = madeF fixB (ofF fixB) p)) = false := fun h => by rw [decide_eq_false h]; rfl
  by_cases h5 : 5 ≤ p
  · by_cases h8 : p = 8
    · subst h8
      exact other (by rw [x8, e _ (by omega) (by omega)]; decide)
    · refine same ?_
      have hlf : leafOf (p : Int) = (p : Int) - 5 := by unfold leafOf; rw [if_pos (by omega)]
      unfold madeF
      rw [hlf, if_pos (by omega), if_pos (by omega), show ((p : Int) - 5).toNat = p - 5 by omega, fixA_get (by omega), fixB_get (by omega) (by omega)]
  · by_cases h0 : p = 0
    · subst h0; exact other (by rw [c, u0]; exact kv_ne)
    · by_cases h1 : p = 1
      · subst h1; exact other (by rw [b _ (by omega) (by omega), u1]; decide)
      · refine same ?_
        have hlf : leafOf (p : Int) = -1 := by unfold leafOf; rw [if_neg (by omega)]
        unfold madeF
        rw [hlf, if_neg (by decide), if_neg (by decide)]
        exact below_congr (T := ofF fixA) (U := ofF fixB) (p := p) fun i hi => by rw [e (4 * p + 1 + i) (by omega) (by omega), e' (4 * p + 1 + i) (by omega) (by omega) (by omega)]
theorem fix_8 : madeF fixB (ofF fixB) 8 = [0, 120] := by
  unfold madeF leafOf
  rw [if_pos (by decide), if_pos (by decide)]
  show 0 :: fixB.getD 3 default = _
  rw [fixB_3]
theorem fix_0 : (madeF fixA (ofF fixA) 0).length = 129 := by
  unfold madeF leafOf
  rw [if_neg (by decide)]
  unfold belowF; rw [if_pos (by omega)]; exact belowTo_len (ofF_len _) (by omega) 4 (by omega)
theorem fix_21 : madeF fixA (ofF fixA) 21 = [] := by
  unfold madeF leafOf
  rw [if_neg (by decide)]
  unfold belowF; rw [if_neg (by omega)]
end Go.Proofs.YtclcfjejpogdlaaGreat.Cl
