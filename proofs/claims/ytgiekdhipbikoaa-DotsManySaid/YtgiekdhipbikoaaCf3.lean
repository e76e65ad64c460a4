/- dots, the laws: DotsMany -/
import Derived.Test.YtgiekdhipbikoaaCf0
import Derived.Test.YtgiekdhipbikoaaCf2
namespace Go.Proofs.Ytgiekdhipbikoaa.Ca
open Go Go.RowKit Go.Aw Go.Aw.Cart Go.Aw.Ord Go.Sort
set_option linter.unusedVariables false
set_option linter.unusedSimpArgs false
set_option maxRecDepth 8000
set_option maxHeartbeats 4000000
/-- the dots of a node, falling, and rising -/
def downL (node : Int) (n j : Nat) : List Dot := (List.range j).map fun k : Nat => (node, (n : Int) - (k : Int))
def upL (node : Int) (n : Nat) : List Dot := (List.range n).map fun k : Nat => (node, (k : Int) + 1)
theorem downL_len (node : Int) (n j : Nat) : (downL node n j).length = j := by simp [downL]
theorem upL_len (node : Int) (n : Nat) : (upL node n).length = n := by simp [upL]
theorem downL_succ (node : Int) (n j : Nat) : downL node n (j + 1) = downL node n j ++ [(node, (n : Int) - (j : Int))] := by
  unfold downL; rw [List.range_succ, List.map_append]; rfl
theorem upL_get {node : Int} {n i : Nat} (h : i < n) : (upL node n).getD i default = (node, (i : Int) + 1) := by
  rw [getD_at (by rw [upL_len]; exact h)]; simp [upL]
theorem upL_up (node : Int) (n : Nat) : (upL node n).Pairwise ltD := by
  refine List.pairwise_iff_getElem.2 fun i j hi hj hij => ?_
  simp only [upL, List.getElem_map, List.getElem_range]
  exact .inr ⟨rfl, by simp only; omega⟩
theorem upL_mem {node : Int} {n : Nat} {d : Dot} : d ∈ upL node n ↔ d.1 = node ∧ 1 ≤ d.2 ∧ d.2 ≤ n := by
  unfold upL
  rw [List.mem_map]
  constructor
  · rintro ⟨k, hk, rfl⟩
    have := List.mem_range.1 hk
    refine ⟨rfl, ?_, ?_⟩ <;> (dsimp only; omega)
  · rintro ⟨h1, h2, h3⟩
    refine ⟨(d.2 - 1).toNat, List.mem_range.2 (by omega), ?_⟩
    obtain ⟨a, b⟩ := d
    simp only at h1 h2 h3 ⊢
    rw [h1]; congr 1; omega
theorem downL_mem {node : Int} {n : Nat} {d : Dot} : d ∈ downL node n n ↔ d.1 = node ∧ 1 ≤ d.2 ∧ d.2 ≤ n := by
  unfold downL
  rw [List.mem_map]
  constructor
  · rintro ⟨k, hk, rfl⟩
    have := List.mem_range.1 hk
    refine ⟨rfl, ?_, ?_⟩ <;> (dsimp only; omega)
  · rintro ⟨h1, h2, h3⟩
    refine ⟨((n : Int) - d.2).toNat, List.mem_range.2 (by omega), ?_⟩
    obtain ⟨a, b⟩ := d
    simp only at h1 h2 h3 ⊢
    rw [h1]; congr 1; omega
theorem many_set {node : Int} {n : Nat} (h1 : 1 ≤ node) (h2 : node ≤ 8) : G.dotsOf (downL node n n) = upL node (min n 2000) := by
  have e : setF (downL node n n) = upL node n := up_ext ltD_ir ltD_tr (setF_up _) (upL_up node n) fun d => by
    rw [setF_mem, downL_mem, upL_mem]
    refine ⟨fun k => k.1, fun k => ⟨k, decide_eq_true ⟨by omega, by omega, by omega⟩⟩⟩
  rw [dotsOf_is, e]
  unfold upL
  rw [← List.map_take, List.take_range, Nat.min_comm]
theorem upL_right {node : Int} {n : Nat} (h1 : 1 ≤ node) (h2 : node ≤ 8) (h : n ≤ 2000) : dRightF (upL node n) = true :=
  dr_of (upL_up node n) (fun d hd => by have := upL_mem.1 hd; exact decide_eq_true ⟨by omega, by omega, by omega⟩) (by rw [upL_len]; exact h)
theorem upL_whole {node : Int} {n : Nat} (h1 : 1 ≤ node) (h2 : node ≤ 8) (h : n ≤ 2000) : wholeF (upL node n) = true := by
  rw [whole_is (fun d hd => by have := upL_mem.1 hd; omega), upL_right h1 h2 h, Bool.true_and, List.all_eq_true]
  intro d hd
  have hm := upL_mem.1 hd
  unfold gapF
  by_cases hz : 0 < d.2 - 1
  · rw [decide_eq_true (upL_mem.2 ⟨hm.1, by omega, by omega⟩ : (d.1, d.2 - 1) ∈ upL node n)]; simp
  · rw [decide_eq_false hz]; rfl
theorem upL_more {node : Int} {n : Nat} {d : Dot} (h : n = 2000) : dRightF (upL node n ++ [d]) = false := by
  unfold dRightF
  rw [decide_eq_false (by rw [List.length_append, upL_len, List.length_singleton]; omega), Bool.and_false]
namespace F3
theorem lopC {C : Ctx} {o : Oper} {σ : St} {e : Eff} {ro : Nat → Bool} (h : LOp C o σ e ro := by
    first
      | (apply gCallF; (focus rfl); first
          | (apply lop_of1; (focus rfl); (focus exact inferInstance); (focus rfl); (focus first | exact lk_m1 rfl | exact lk_m2 rfl | exact lk_m3 rfl | exact lk_o rfl | exact lk_a2 rfl | exact lk_a3 rfl | exact lk_a4 rfl | exact lk_a1 rfl | exact lk_a5 rfl | exact lk_a6 rfl | exact lk_a7 rfl | exact lk_a8 rfl | exact lk_a rfl); (focus rfl); (focus exact inferInstance); (focus first | exact True.intro | assumption | rfl | omega | ((repeat' (first | assumption | refine And.intro ?_ ?_ | omega | rfl)); done) | fail); (focus rfl); (focus rfl))
          | (apply lop_lend1; (focus rfl); (focus exact inferInstance); (focus rfl); (focus rfl); (focus rfl); (focus exact (List.length_map ..).symm); (focus exact inferInstance); (focus first | exact True.intro | assumption | rfl | omega | ((repeat' (first | assumption | refine And.intro ?_ ?_ | omega | rfl)); done) | fail); (focus exact RV.v); (focus rfl)))
      | (apply G.lop_bst2; (focus rfl); (focus exact inferInstance); (focus exact inferInstance); (focus exact inferInstance); (focus rfl); (focus rfl); (focus rfl))
      | (apply lop_ap_pair; (focus rfl); (focus exact inferInstance); (focus exact inferInstance); (focus exact inferInstance); (focus rfl); (focus rfl); (focus rfl); (focus rfl); (focus rfl); (focus rfl); (focus first | (simp only [maxLen, List.length_append, List.length_cons, List.length_nil, List.length_take, List.length_drop, List.length_map]; omega) | omega); (focus first | (simp only [maxLen, List.length_append, List.length_cons, List.length_nil, List.length_take, List.length_drop, List.length_map]; omega) | omega); (focus rfl))
      | exact lopQ
      | exact lopV
      | fail) : LOp C o σ e ro := h
section steps
variable {C : Ctx} {ops : Array Oper} {o : Oper} {rest : List Oper} {K : St → Prop} {σ : St} {e : Eff} {ro : Nat → Bool} {W : List (Nat × Nat)} {i : Nat}
theorem rnC {d : Nat} (hk : RunN C ops rest K (e.app (some d) σ)) (hg : Guard ops σ o true := by first | exact gd_n rfl rfl | exact gd_t rfl rfl rfl rfl | exact gd_t rfl rfl rfl (by assumption)) (hd : o.dst = some d := by rfl) (h : LOp C o σ e ro := by exact lopC) : RunN C ops (o :: rest) K σ := rn_any hg hd h hk
theorem rkC {d : Nat} (hk : RunK C ops W (i + 1) rest K (e.app (some d) σ)) (hg : Guard ops σ o true := by first | exact gd_n rfl rfl | exact gd_t rfl rfl rfl rfl | exact gd_t rfl rfl rfl (by assumption)) (hd' : o.dst = some d := by rfl) (hd : dOk C o.dst = true := by rfl) (h : LOp C o σ e ro := by exact lopC)
    (hro : ∀ x, ro x = true → okObj ops W i x = true := by first | exact fun _ => ro_none | exact ro_one rfl | exact ro_k1 rfl | exact ro_one (by kernel_rfl) | exact ro_k1 (by kernel_rfl) | exact ro_kIn (by decide)) (hob : ∀ p ∈ e.obj, (i, p.1) ∈ W := by first | exact ob_none | exact ob_one (by decide) | decide) : RunK C ops W i (o :: rest) K σ := rk_wr hg hd' hd h hro hob hk
end steps
end F3
open F3
instance dOfO_i {c k : Nat} {l : List Dot} {ex : Bool} : OC Try.prog 22 [.p (.sl 2 (l.map dR) ex)] [] [(c, k)] (l.length ≤ 1000000000) (.o (.osl c (k + (0 + (l.filter dotF).length)) 2 0 (G.dotsOf l).length)) [(c, (k + (0 + ((l.filter dotF).length + 1)), some (.buf 25 2 ((G.dotsOf l).map dR))))] := ⟨fun h => (dOf_o l ex h).fresh1 c k⟩
set_option maxRecDepth 100000 in
theorem dotsMany_w (n : Nat) (node : Int) (hn : n < 65536) : PCall Try.prog 4 [.p (.k .u16 n), .p (.i node)] (.p (.b true)) := by
  refine pcall_of Try.func4 rfl (fun w0 F S0 M0 => ?_)
  by_cases h1 : 2100 < (n : Int)
  · have d1 : decide (2100 < (n : Int)) = true := decide_eq_true h1
    as_aux_lemma =>
      repeat' (first
          | refine rnC ?_
          | refine rnSB ?_
          | refine rnG ?_
          | refine rnU ?_
          | ((fail_if_success (refine rnKn ?_)); refine rnP ?_ ?_ <;> (intro hq; try (have hq' := hq; simp only [hqs] at hq')))
          | refine rkC ?_
          | refine rkSB ?_
          | refine rkF ?_
          | refine rkU ?_
          | ((fail_if_success (refine rkKn ?_)); refine rkP ?_ ?_ <;> (intro hq; try (have hq' := hq; simp only [hqs] at hq')))
          | refine stp ?_
          | refine aws_draws [] mixed (by kernel_rfl) ?_
          | refine ifT ?_
          | refine ifF ?_
          | (refine ifQ ?_ ?_ <;> (try (intro hn)))
          | (refine ifB ?_ ?_ <;> (intro hq; try (have hq' := hq; simp only [hqs] at hq'))))
      exact rt1 rfl rfl finS_p rfl
  have d1 : decide (2100 < (n : Int)) = false := decide_eq_false h1
  by_cases h2 : node < 1
  · have d2 : decide (node < 1) = true := decide_eq_true h2
    as_aux_lemma =>
      repeat' (first
          | refine rnC ?_
          | refine rnSB ?_
          | refine rnG ?_
          | refine rnU ?_
          | ((fail_if_success (refine rnKn ?_)); refine rnP ?_ ?_ <;> (intro hq; try (have hq' := hq; simp only [hqs] at hq')))
          | refine rkC ?_
          | refine rkSB ?_
          | refine rkF ?_
          | refine rkU ?_
          | ((fail_if_success (refine rkKn ?_)); refine rkP ?_ ?_ <;> (intro hq; try (have hq' := hq; simp only [hqs] at hq')))
          | refine stp ?_
          | refine aws_draws [] mixed (by kernel_rfl) ?_
          | refine ifT ?_
          | refine ifF ?_
          | (refine ifQ ?_ ?_ <;> (try (intro hn)))
          | (refine ifB ?_ ?_ <;> (intro hq; try (have hq' := hq; simp only [hqs] at hq'))))
      exact rt1 rfl rfl finS_p rfl
  have d2 : decide (node < 1) = false := decide_eq_false h2
  by_cases h3 : 8 < node
  · have d3 : decide (8 < node) = true := decide_eq_true h3
    as_aux_lemma =>
      repeat' (first
          | refine rnC ?_
          | refine rnSB ?_
          | refine rnG ?_
          | refine rnU ?_
          | ((fail_if_success (refine rnKn ?_)); refine rnP ?_ ?_ <;> (intro hq; try (have hq' := hq; simp only [hqs] at hq')))
          | refine rkC ?_
          | refine rkSB ?_
          | refine rkF ?_
          | refine rkU ?_
          | ((fail_if_success (refine rkKn ?_)); refine rkP ?_ ?_ <;> (intro hq; try (have hq' := hq; simp only [hqs] at hq')))
          | refine stp ?_
          | refine aws_draws [] mixed (by kernel_rfl) ?_
          | refine ifT ?_
          | refine ifF ?_
          | (refine ifQ ?_ ?_ <;> (try (intro hn)))
          | (refine ifB ?_ ?_ <;> (intro hq; try (have hq' := hq; simp only [hqs] at hq'))))
      exact rt1 rfl rfl finS_p rfl
  have d3 : decide (8 < node) = false := decide_eq_false h3
  have q1 : 1 ≤ node := by omega
  have q2 : node ≤ 8 := by omega
  repeat' (first
      | refine rnC ?_
      | refine rnSB ?_
      | refine rnG ?_
      | refine rnU ?_
      | ((fail_if_success (refine rnKn ?_)); refine rnP ?_ ?_ <;> (intro hq; try (have hq' := hq; simp only [hqs] at hq')))
      | refine rkC ?_
      | refine rkSB ?_
      | refine rkF ?_
      | refine rkU ?_
      | ((fail_if_success (refine rkKn ?_)); refine rkP ?_ ?_ <;> (intro hq; try (have hq' := hq; simp only [hqs] at hq')))
      | refine stp ?_
      | refine aws_draws [] mixed (by kernel_rfl) ?_
      | refine ifT ?_
      | refine ifF ?_
      | (refine ifQ ?_ ?_ <;> (try (intro hn)))
      | (refine ifB ?_ ?_ <;> (intro hq; try (have hq' := hq; simp only [hqs] at hq'))))
  refine aws_says (says_nil (t := 5) (o := 901) (ty := 25) (es := 2) rfl rfl (by decide)) ?_
  refine aws_loopS [5, 6, 23, 24, 25, 26, 27, 28, 29, 30, 31, 32, 33] [901] (fun (x : Int × Nat × List Dot) => [(6, .p (.i x.1)), (5, .o (.osl 901 x.2.1 2 0 x.2.2.length))]) (fun x => [(901, (x.2.1 + 1, some (.buf 25 2 (x.2.2.map dR))))])
    (fun x => 0 ≤ x.1 ∧ x.1 ≤ n ∧ x.2.2 = downL node n (n - x.1.toNat)) (fun x => x.1.toNat) ((n : Int), 0, []) ⟨by dsimp only; omega, Int.le_refl _, by dsimp only; rw [Int.toNat_natCast, Nat.sub_self]; rfl⟩ (by exact knA) (by exact knA) ?_
  rintro ⟨i, g, l⟩ β γ ⟨hi, hin, hl⟩
  simp only at hi hin hl
  have hll : l.length = n - i.toNat := by rw [hl, downL_len]
  dsimp only
  by_cases hjn : 0 < i
  · have d4 : decide (0 < i) = true := decide_eq_true hjn
    as_aux_lemma =>
      repeat' (first
          | refine rnC ?_
          | refine rnSB ?_
          | refine rnG ?_
          | refine rnU ?_
          | ((fail_if_success (refine rnKn ?_)); refine rnP ?_ ?_ <;> (intro hq; try (have hq' := hq; simp only [hqs] at hq')))
          | refine rkC ?_
          | refine rkSB ?_
          | refine rkF ?_
          | refine rkU ?_
          | ((fail_if_success (refine rkKn ?_)); refine rkP ?_ ?_ <;> (intro hq; try (have hq' := hq; simp only [hqs] at hq')))
          | refine stp ?_
          | refine aws_draws [] mixed (by kernel_rfl) ?_
          | refine ifT ?_
          | refine ifF ?_
          | (refine ifQ ?_ ?_ <;> (try (intro hn)))
          | (refine ifB ?_ ?_ <;> (intro hq; try (have hq' := hq; simp only [hqs] at hq'))))
      refine ⟨(i - 1, g + 1, l ++ [(node, i)]), _, by dsimp only; omega, ⟨by dsimp only; omega, by dsimp only; omega, ?_⟩, .refl, by exact frA⟩
      dsimp only
      rw [hl, show n - (i - 1).toNat = (n - i.toNat) + 1 by omega, downL_succ]
      congr 3
      omega
  · have d4 : decide (0 < i) = false := decide_eq_false hjn
    obtain rfl : i = 0 := by omega
    rw [Int.toNat_zero, Nat.sub_zero] at hl hll
    have hl9 : l.length ≤ 1000000000 := by omega
    obtain ⟨m, hm⟩ : ∃ m, m = min n 2000 := ⟨_, rfl⟩
    have hs : G.dotsOf l = upL node m := by rw [hl, hm]; exact many_set q1 q2
    have hsl := upL_len node m
    obtain ⟨s, hse⟩ : ∃ s, s = upL node m := ⟨_, rfl⟩
    obtain ⟨gen, hgen⟩ : ∃ gen, gen = (l.filter dotF).length := ⟨_, rfl⟩
    haveI : ∀ c k : Nat, OC Try.prog 22 [.p (.sl 2 (l.map dR) false)] [] [(c, k)] True (.o (.osl c (k + gen) 2 0 s.length)) [(c, (k + gen + 1, some (.buf 25 2 (s.map dR))))] := fun c k => ⟨fun _ => by
      have := (dOf_o l false hl9).fresh1 c k
      rw [hs, ← hse, ← hgen, Nat.zero_add, Nat.zero_add] at this
      exact this⟩
    have hlen : s.length = m := by rw [hse]; exact hsl
    have hs9 : s.length ≤ 1000000000 := by rw [hlen]; omega
    have w1 := whole_w s false hs9 (fun d hd => by rw [hse] at hd; have := upL_mem.1 hd; omega)
    rw [hse, upL_whole q1 q2 (by omega), ← hse] at w1
    have w2 := dRight_w s false hs9
    rw [hse, upL_right q1 q2 (by omega), ← hse] at w2
    haveI : PC Try.prog 13 [.p (.sl 2 (s.map dR) false)] True (.p (.b true)) := ⟨fun _ => w1⟩
    haveI : PC Try.prog 11 [.p (.sl 2 (s.map dR) false)] True (.p (.b true)) := ⟨fun _ => w2⟩
    have w3 := dRight_w (s ++ [(8, 1099511627776)]) false (by rw [List.length_append, List.length_singleton]; omega)
    have sg : ∀ k : Nat, k < m → s.getD k default = (node, (k : Int) + 1) := fun k hk => by rw [hse]; exact upL_get hk
    clear w1 w2
    by_cases hk : 2000 < n
    · have d5 : decide (2000 < (n : Int)) = true := decide_eq_true (by omega)
      have e9 : dRightF (s ++ [(8, 1099511627776)]) = false := by rw [hse]; exact upL_more (by omega)
      rw [e9] at w3
      haveI : PC Try.prog 11 [.p (.sl 2 ((s ++ [(8, 1099511627776)]).map dR) false)] True (.p (.b false)) := ⟨fun _ => w3⟩
      clear w3
      repeat' (first
          | refine rnC ?_
          | refine rnSB ?_
          | refine rnG ?_
          | refine rnU ?_
          | ((fail_if_success (refine rnKn ?_)); refine rnP ?_ ?_ <;> (intro hq; try (have hq' := hq; simp only [hqs] at hq')))
          | refine rkC ?_
          | refine rkSB ?_
          | refine rkF ?_
          | refine rkU ?_
          | ((fail_if_success (refine rkKn ?_)); refine rkP ?_ ?_ <;> (intro hq; try (have hq' := hq; simp only [hqs] at hq')))
          | refine stp ?_
          | refine ifT ?_
          | refine ifF ?_
          | (refine ifQ ?_ ?_ <;> (try (intro hn)))
          | (refine ifB ?_ ?_ <;> (intro hq; try (have hq' := hq; simp only [hqs] at hq'))))
      refine rn_says (says_frz (t := 34) (o := 901) rfl rfl rfl (by simp)) rfl ?_
      repeat' (first
          | refine rnC ?_
          | refine rnSB ?_
          | refine rnG ?_
          | refine rnU ?_
          | ((fail_if_success (refine rnKn ?_)); refine rnP ?_ ?_ <;> (intro hq; try (have hq' := hq; simp only [hqs] at hq')))
          | refine rkC ?_
          | refine rkSB ?_
          | refine rkF ?_
          | refine rkU ?_
          | ((fail_if_success (refine rkKn ?_)); refine rkP ?_ ?_ <;> (intro hq; try (have hq' := hq; simp only [hqs] at hq')))
          | refine stp ?_
          | refine ifT ?_
          | refine ifF ?_
          | (refine ifQ ?_ ?_ <;> (try (intro hn)))
          | (refine ifB ?_ ?_ <;> (intro hq; try (have hq' := hq; simp only [hqs] at hq'))))
      refine aws_loopS [4, 9, 40, 41, 42, 43, 44, 45, 46, 47, 48, 49, 50, 51, 52, 53, 54, 55, 56, 57, 58, 59, 60] [] (fun (i : Nat) => [(9, .p (.i i))]) (fun _ => []) (fun i => i ≤ m) (fun i => m - i) 0 (Nat.zero_le _) (by exact knA) (by exact knA) ?_
      intro i β γ hi
      by_cases him : i < m
      · have d6 : decide ((i : Int) < 2000) = true := decide_eq_true (by omega)
        have d7 : decide ((i : Int) < (s.length : Int)) = true := decide_eq_true (by omega)
        have hil : i < s.length := by omega
        have hv : (!vEqB [.int .i64 (s.getD (i : Int).toNat default).1, .int .u64 (s.getD (i : Int).toNat default).2] [.int .i64 node, .int .u64 ((i : Int) + 1)]) = false := by
          have := congrArg not (vEqD (s.getD (i : Int).toNat default) (node, (i : Int) + 1))
          rw [decide_eq_true (by rw [Int.toNat_natCast]; exact sg i him), Bool.not_true] at this
          exact this
        as_aux_lemma =>
          repeat' (first
              | refine rnC ?_
              | refine rnSB ?_
              | refine rnG ?_
              | refine rnU ?_
              | ((fail_if_success (refine rnKn ?_)); refine rnP ?_ ?_ <;> (intro hq; try (have hq' := hq; simp only [hqs] at hq')))
              | refine rkC ?_
              | refine rkSB ?_
              | refine rkF ?_
              | refine rkU ?_
              | ((fail_if_success (refine rkKn ?_)); refine rkP ?_ ?_ <;> (intro hq; try (have hq' := hq; simp only [hqs] at hq')))
              | refine stp ?_
              | refine ifT ?_
              | refine ifF ?_
              | (refine ifQ ?_ ?_ <;> (try (intro hn)))
              | (refine ifB ?_ ?_ <;> (intro hq; try (have hq' := hq; simp only [hqs] at hq'))))
          exact ⟨i + 1, _, by omega, by omega, .refl, by exact frA⟩
      · have d6 : decide ((i : Int) < 2000) = false := decide_eq_false (by omega)
        have d8 : decide ((s.length : Int) = 2000) = true := decide_eq_true (by omega)
        have d9 : decide ((n : Int) ≤ 2000) = false := decide_eq_false (by omega)
        as_aux_lemma =>
          repeat' (first
              | refine rnC ?_
              | refine rnSB ?_
              | refine rnG ?_
              | refine rnU ?_
              | ((fail_if_success (refine rnKn ?_)); refine rnP ?_ ?_ <;> (intro hq; try (have hq' := hq; simp only [hqs] at hq')))
              | refine rkC ?_
              | refine rkSB ?_
              | refine rkF ?_
              | refine rkU ?_
              | ((fail_if_success (refine rkKn ?_)); refine rkP ?_ ?_ <;> (intro hq; try (have hq' := hq; simp only [hqs] at hq')))
              | refine stp ?_
              | refine ifT ?_
              | refine ifF ?_
              | (refine ifQ ?_ ?_ <;> (try (intro hn)))
              | (refine ifB ?_ ?_ <;> (intro hq; try (have hq' := hq; simp only [hqs] at hq'))))
          exact rt1 rfl rfl finS_p rfl
    · have d5 : decide (2000 < (n : Int)) = false := decide_eq_false (by omega)
      clear w3
      repeat' (first
          | refine rnC ?_
          | refine rnSB ?_
          | refine rnG ?_
          | refine rnU ?_
          | ((fail_if_success (refine rnKn ?_)); refine rnP ?_ ?_ <;> (intro hq; try (have hq' := hq; simp only [hqs] at hq')))
          | refine rkC ?_
          | refine rkSB ?_
          | refine rkF ?_
          | refine rkU ?_
          | ((fail_if_success (refine rkKn ?_)); refine rkP ?_ ?_ <;> (intro hq; try (have hq' := hq; simp only [hqs] at hq')))
          | refine stp ?_
          | refine ifT ?_
          | refine ifF ?_
          | (refine ifQ ?_ ?_ <;> (try (intro hn)))
          | (refine ifB ?_ ?_ <;> (intro hq; try (have hq' := hq; simp only [hqs] at hq'))))
      refine rn_says (says_frz (t := 34) (o := 901) rfl rfl rfl (by simp)) rfl ?_
      repeat' (first
          | refine rnC ?_
          | refine rnSB ?_
          | refine rnG ?_
          | refine rnU ?_
          | ((fail_if_success (refine rnKn ?_)); refine rnP ?_ ?_ <;> (intro hq; try (have hq' := hq; simp only [hqs] at hq')))
          | refine rkC ?_
          | refine rkSB ?_
          | refine rkF ?_
          | refine rkU ?_
          | ((fail_if_success (refine rkKn ?_)); refine rkP ?_ ?_ <;> (intro hq; try (have hq' := hq; simp only [hqs] at hq')))
          | refine stp ?_
          | refine ifT ?_
          | refine ifF ?_
          | (refine ifQ ?_ ?_ <;> (try (intro hn)))
          | (refine ifB ?_ ?_ <;> (intro hq; try (have hq' := hq; simp only [hqs] at hq'))))
      refine aws_loopS [4, 9, 40, 41, 42, 43, 44, 45, 46, 47, 48, 49, 50, 51, 52, 53, 54, 55, 56, 57, 58, 59, 60] [] (fun (i : Nat) => [(9, .p (.i i))]) (fun _ => []) (fun i => i ≤ m) (fun i => m - i) 0 (Nat.zero_le _) (by exact knA) (by exact knA) ?_
      intro i β γ hi
      by_cases him : i < m
      · have d6 : decide ((i : Int) < (n : Int)) = true := decide_eq_true (by omega)
        have d7 : decide ((i : Int) < (s.length : Int)) = true := decide_eq_true (by omega)
        have hil : i < s.length := by omega
        have hv : (!vEqB [.int .i64 (s.getD (i : Int).toNat default).1, .int .u64 (s.getD (i : Int).toNat default).2] [.int .i64 node, .int .u64 ((i : Int) + 1)]) = false := by
          have := congrArg not (vEqD (s.getD (i : Int).toNat default) (node, (i : Int) + 1))
          rw [decide_eq_true (by rw [Int.toNat_natCast]; exact sg i him), Bool.not_true] at this
          exact this
        as_aux_lemma =>
          repeat' (first
              | refine rnC ?_
              | refine rnSB ?_
              | refine rnG ?_
              | refine rnU ?_
              | ((fail_if_success (refine rnKn ?_)); refine rnP ?_ ?_ <;> (intro hq; try (have hq' := hq; simp only [hqs] at hq')))
              | refine rkC ?_
              | refine rkSB ?_
              | refine rkF ?_
              | refine rkU ?_
              | ((fail_if_success (refine rkKn ?_)); refine rkP ?_ ?_ <;> (intro hq; try (have hq' := hq; simp only [hqs] at hq')))
              | refine stp ?_
              | refine ifT ?_
              | refine ifF ?_
              | (refine ifQ ?_ ?_ <;> (try (intro hn)))
              | (refine ifB ?_ ?_ <;> (intro hq; try (have hq' := hq; simp only [hqs] at hq'))))
          exact ⟨i + 1, _, by omega, by omega, .refl, by exact frA⟩
      · have d6 : decide ((i : Int) < (n : Int)) = false := decide_eq_false (by omega)
        have d8 : decide ((s.length : Int) = (n : Int)) = true := decide_eq_true (by omega)
        have d9 : decide ((n : Int) ≤ 2000) = true := decide_eq_true (by omega)
        as_aux_lemma =>
          repeat' (first
              | refine rnC ?_
              | refine rnSB ?_
              | refine rnG ?_
              | refine rnU ?_
              | ((fail_if_success (refine rnKn ?_)); refine rnP ?_ ?_ <;> (intro hq; try (have hq' := hq; simp only [hqs] at hq')))
              | refine rkC ?_
              | refine rkSB ?_
              | refine rkF ?_
              | refine rkU ?_
              | ((fail_if_success (refine rkKn ?_)); refine rkP ?_ ?_ <;> (intro hq; try (have hq' := hq; simp only [hqs] at hq')))
              | refine stp ?_
              | refine ifT ?_
              | refine ifF ?_
              | (refine ifQ ?_ ?_ <;> (try (intro hn)))
              | (refine ifB ?_ ?_ <;> (intro hq; try (have hq' := hq; simp only [hqs] at hq'))))
          exact rt1 rfl rfl finS_p rfl
end Go.Proofs.Ytgiekdhipbikoaa.Ca
