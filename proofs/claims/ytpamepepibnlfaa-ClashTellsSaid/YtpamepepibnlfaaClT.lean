/- clashes, the reference: Made, At, Exact -/
import Derived.Test.YtpamepepibnlfaaClS
import Derived.Test.YtpamepepibnlfaaTrF
namespace Go.Proofs.Ytpamepepibnlfaa.Cl
open Go Go.RowKit Go.Aw Go.Aw.Sha Go.Aw.Tree Go.Aw.Clash Go.Proofs.Ytpamepepibnlfaa.Sh Go.Proofs.Ytpamepepibnlfaa.Tr
set_option linter.unusedVariables false
set_option linter.unusedSimpArgs false
set_option maxRecDepth 8000
attribute [local irreducible] sum
set_option maxHeartbeats 4000000
theorem strOf_app (a b : List Nat) : strOf a ++ strOf b = strOf (a ++ b) := by
  apply ByteArray.ext
  simp [strOf, ByteArray.data_append]
theorem lop_saddk (a : List Nat) {C : Ctx} {o : Oper} {σ : St} {t t' : TypeId} {x y : Operand} {s : ByteArray} {b : List Nat} (ho : o.op = .binOp .add t x y t') (hx : σ.look x = .p (.v (.string s))) (hs : s = strOf a) (hy : σ.look y = .p (.v (.string (strOf b)))) (hl : a.length + b.length ≤ 9223372036854775807) (hd : dOk C o.dst = true) :
    LOp C o σ ⟨.p (.v (.string (strOf (a ++ b)))), []⟩ (fun _ => false) := by
  subst hs
  refine lop_bin ho hx hy (fun w => ?_) rfl hd
  have h1 : ¬ (((strOf a).size + (strOf b).size : Nat) : Int) > IntKind.i64.max := by
    rw [strOf_size, strOf_size]
    simp only [IntKind.max, IntKind.signed, IntKind.bits]
    simp; omega
  have h2 : (eqGuard .add t x y (.string (strOf a)) (.string (strOf b))).run C.P w = .ok () w := by unfold eqGuard; simp [pure]
  rw [Sem.run_bind, h2]
  simp only [Result.andThen_ok, binOp, Op.stringOp, h1, if_false, strOf_app]
  rfl
theorem lopC {C : Ctx} {o : Oper} {σ : St} {e : Eff} {ro : Nat → Bool} (h : LOp C o σ e ro := by
    first
      | (apply lop_saddk [0]; (focus rfl); (focus rfl); (focus rfl); (focus rfl); (focus (simp only [List.length_cons, List.length_nil]; omega)); (focus rfl))
      | exact lopB
      | fail) : LOp C o σ e ro := h
section steps
variable {C : Ctx} {ops : Array Oper} {o : Oper} {rest : List Oper} {K : St → Prop} {σ : St} {e : Eff} {ro : Nat → Bool} {W : List (Nat × Nat)} {i : Nat}
theorem rnC {d : Nat} (hk : RunN C ops rest K (e.app (some d) σ)) (hg : Guard ops σ o true := by first | exact gd_n rfl rfl | exact gd_t rfl rfl rfl rfl | exact gd_t rfl rfl rfl (by assumption)) (hd : o.dst = some d := by rfl) (h : LOp C o σ e ro := by exact lopC) : RunN C ops (o :: rest) K σ := rn_any hg hd h hk
theorem rkC {d : Nat} (hk : RunK C ops W (i + 1) rest K (e.app (some d) σ)) (hg : Guard ops σ o true := by first | exact gd_n rfl rfl | exact gd_t rfl rfl rfl rfl | exact gd_t rfl rfl rfl (by assumption)) (hd' : o.dst = some d := by rfl) (hd : dOk C o.dst = true := by rfl) (h : LOp C o σ e ro := by exact lopC)
    (hro : ∀ x, ro x = true → okObj ops W i x = true := by first | exact fun _ => ro_none | exact ro_one rfl | exact ro_one (by kernel_rfl) | exact ro_kIn (by decide)) (hob : ∀ p ∈ e.obj, (i, p.1) ∈ W := by first | exact ob_none | exact ob_one (by decide) | decide) : RunK C ops W i (o :: rest) K σ := rk_wr hg hd' hd h hro hob hk
end steps
theorem made_in {ls : List (List Nat)} {T : List Nat} {p : Int} (h : 4 < p ∧ p < 21) : madeF ls T p = [0] ++ ls.getD (p - 5).toNat default := by
  unfold madeF leafOf; rw [if_pos (by rw [if_pos (by omega)]; omega), if_pos (by omega)]; rfl
theorem made_out {ls : List (List Nat)} {T : List Nat} {p : Int} (h : ¬ (4 < p ∧ p < 21)) : madeF ls T p = belowF T p := by
  unfold madeF leafOf; rw [if_neg (by rw [if_neg (by omega)]; omega)]
theorem made_r (ls : List (List Nat)) (p : Int) (h : few ls ∧ okT ls) : PCall Try.prog 19 [strs ls, .p (.i p)] (.p (.v (.string (strOf (madeF ls (ofF ls) p))))) := by
  refine pcall_of Try.func19 rfl (fun w0 F S0 M0 => ?_)
  obtain ⟨hl, ho⟩ := h
  have hl16 := hl.1
  by_cases hp : 4 < p ∧ p < 21
  · have hd1 : decide (4 < p) = true := decide_eq_true hp.1
    have hd2 : decide (p < 21) = true := decide_eq_true hp.2
    rw [made_in hp]
    have ob := okT_get ho (p - 5).toNat
    have obl := few_get hl (p - 5).toNat
    repeat' (first
        | refine rnC ?_
        | refine rnSB ?_
        | refine rnG ?_
        | refine rnU ?_
        | ((fail_if_success (refine rnKn ?_)); refine rnP ?_ ?_ <;> (intro hq; try (have hq' := hq; simp only [hqs] at hq')))
        | refine rkC ?_
        | refine rkSB ?_
        | refine rkF ?_
        | refine rkU ?_
        | ((fail_if_success (refine rkKn ?_)); refine rkP ?_ ?_ <;> (intro hq; try (have hq' := hq; simp only [hqs] at hq')))
        | refine stp ?_
        | refine ifT ?_
        | refine ifF ?_
        | (refine ifQ ?_ ?_ <;> (try (intro hn)))
        | (refine ifB ?_ ?_ <;> (intro hq; try (have hq' := hq; simp only [hqs] at hq'))))
    exact rt1 rfl rfl finS_p rfl
  · rw [made_out hp]
    have hof := ofF_len ls
    have oof := okB_of ls
    have obl := okB_below oof p
    by_cases h4 : 4 < p
    · have hd1 : decide (4 < p) = true := decide_eq_true h4
      have hd2 : decide (p < 21) = false := decide_eq_false (by omega)
      repeat' (first
          | refine rnB ?_
          | refine rnSB ?_
          | refine rnG ?_
          | refine rnU ?_
          | ((fail_if_success (refine rnKn ?_)); refine rnP ?_ ?_ <;> (intro hq; try (have hq' := hq; simp only [hqs] at hq')))
          | refine rkB ?_
          | refine rkSB ?_
          | refine rkF ?_
          | refine rkU ?_
          | ((fail_if_success (refine rkKn ?_)); refine rkP ?_ ?_ <;> (intro hq; try (have hq' := hq; simp only [hqs] at hq')))
          | refine stp ?_
          | refine aws_draws [] mixed (by kernel_rfl) ?_
          | refine ifT ?_
          | refine ifF ?_
          | (refine ifQ ?_ ?_ <;> (try (intro hn)))
          | (refine ifB ?_ ?_ <;> (intro hq; try (have hq' := hq; simp only [hqs] at hq'))))
      exact rt1 rfl rfl finS_p rfl
    · have hd1 : decide (4 < p) = false := decide_eq_false h4
      repeat' (first
          | refine rnB ?_
          | refine rnSB ?_
          | refine rnG ?_
          | refine rnU ?_
          | ((fail_if_success (refine rnKn ?_)); refine rnP ?_ ?_ <;> (intro hq; try (have hq' := hq; simp only [hqs] at hq')))
          | refine rkB ?_
          | refine rkSB ?_
          | refine rkF ?_
          | refine rkU ?_
          | ((fail_if_success (refine rkKn ?_)); refine rkP ?_ ?_ <;> (intro hq; try (have hq' := hq; simp only [hqs] at hq')))
          | refine stp ?_
          | refine aws_draws [] mixed (by kernel_rfl) ?_
          | refine ifT ?_
          | refine ifF ?_
          | (refine ifQ ?_ ?_ <;> (try (intro hn)))
          | (refine ifB ?_ ?_ <;> (intro hq; try (have hq' := hq; simp only [hqs] at hq'))))
      exact rt1 rfl rfl finS_p rfl
instance {ls : List (List Nat)} {p : Int} : PC Try.prog 19 [strs ls, .p (.i p)] (few ls ∧ okT ls) (.p (.v (.string (strOf (madeF ls (ofF ls) p))))) := ⟨made_r ls p⟩
theorem at_r (ls ms : List (List Nat)) (h : few ls ∧ few ms ∧ okT ls ∧ okT ms) : PCall Try.prog 17 [strs ls, strs ms] (.p (.i (atF ls ms (ofF ls) (ofF ms)))) := by
  refine pcall_of Try.func17 rfl (fun w0 F S0 M0 => ?_)
  obtain ⟨hl, hm, ol, om⟩ := h
  have hl16 := hl.1
  have hm16 := hm.1
  have hof := ofF_len ls
  have hog := ofF_len ms
  have bof := okB_of ls
  have bog := okB_of ms
  have o1 := okB_made ol bof
  have o2 := okB_made om bog
  unfold atF
  have mk1 := made_r ls
  have mk2 := made_r ms
  obtain ⟨T, hT⟩ : ∃ T, T = ofF ls := ⟨_, rfl⟩
  obtain ⟨U, hU⟩ : ∃ U, U = ofF ms := ⟨_, rfl⟩
  haveI : PC Try.prog 49 [strs ls] True (tv T) := ⟨fun _ => by rw [hT]; exact rof_c ls hl ol⟩
  haveI : PC Try.prog 49 [strs ms] True (tv U) := ⟨fun _ => by rw [hU]; exact rof_c ms hm om⟩
  haveI : ∀ p : Int, PC Try.prog 19 [strs ls, .p (.i p)] True (.p (.v (.string (strOf (madeF ls T p))))) := fun p => ⟨fun _ => by rw [hT]; exact mk1 p ⟨hl, ol⟩⟩
  haveI : ∀ p : Int, PC Try.prog 19 [strs ms, .p (.i p)] True (.p (.v (.string (strOf (madeF ms U p))))) := fun p => ⟨fun _ => by rw [hU]; exact mk2 p ⟨hm, om⟩⟩
  rw [← hT] at hof bof o1 ⊢
  rw [← hU] at hog bog o2 ⊢
  clear hT hU mk1 mk2
  obtain ⟨A, hA⟩ : ∃ A, A = atFrom ls ms T U 0 21 := ⟨_, rfl⟩
  rw [← hA]
  repeat' (first
      | refine rnB ?_
      | refine rnSB ?_
      | refine rnG ?_
      | refine rnU ?_
      | ((fail_if_success (refine rnKn ?_)); refine rnP ?_ ?_ <;> (intro hq; try (have hq' := hq; simp only [hqs] at hq')))
      | refine rkB ?_
      | refine rkSB ?_
      | refine rkF ?_
      | refine rkU ?_
      | ((fail_if_success (refine rkKn ?_)); refine rkP ?_ ?_ <;> (intro hq; try (have hq' := hq; simp only [hqs] at hq')))
      | refine stp ?_
      | refine ifT ?_
      | refine ifF ?_
      | (refine ifQ ?_ ?_ <;> (try (intro hn)))
      | (refine ifB ?_ ?_ <;> (intro hq; try (have hq' := hq; simp only [hqs] at hq'))))
  refine aws_draws [(4, 5), (5, 6), (6, 5), (7, 6)] mixed (by kernel_rfl) ?_
  repeat' (first
      | refine rk_nil ?_
      | refine rkB ?_
      | refine rkSB ?_
      | refine rkF ?_
      | refine rkU ?_
      | ((fail_if_success (refine rkKn ?_)); refine rkP ?_ ?_ <;> (intro hq; try (have hq' := hq; simp only [hqs] at hq'))))
  repeat' (first
      | refine rnB ?_
      | refine rnSB ?_
      | refine rnG ?_
      | refine rnU ?_
      | ((fail_if_success (refine rnKn ?_)); refine rnP ?_ ?_ <;> (intro hq; try (have hq' := hq; simp only [hqs] at hq')))
      | refine rkB ?_
      | refine rkSB ?_
      | refine rkF ?_
      | refine rkU ?_
      | ((fail_if_success (refine rkKn ?_)); refine rkP ?_ ?_ <;> (intro hq; try (have hq' := hq; simp only [hqs] at hq')))
      | refine stp ?_
      | refine ifT ?_
      | refine ifF ?_
      | (refine ifQ ?_ ?_ <;> (try (intro hn)))
      | (refine ifB ?_ ?_ <;> (intro hq; try (have hq' := hq; simp only [hqs] at hq'))))
  refine aws_loopS [4, 7, 8, 9, 14, 15, 16, 17, 18, 19, 20, 21, 22, 23, 24, 25, 26, 27, 28, 29, 30, 31, 32, 33, 34, 35, 36, 37, 38, 39, 40, 41, 42, 43, 44, 45, 46] [] (fun (i : Nat) => [(7, .p (.i i))]) (fun _ => []) (fun i => i ≤ 21 ∧ A = atFrom ls ms T U i (21 - i)) (fun i => 21 - i) 0 ⟨Nat.zero_le _, hA⟩ (by exact knA) (by exact knA) ?_
  rintro i β γ ⟨hi, hx⟩
  by_cases h21 : i < 21
  · have hlt : decide ((i : Int) < 21) = true := decide_eq_true (by omega)
    have p1 := o1 i
    have p2 := o2 i
    have b1 := okB_below bof i
    have b2 := okB_below bog i
    have r1 : (rowOf 32 T (i : Int).toNat).length = 32 := row_len hof (by omega)
    have r2 : (rowOf 32 U (i : Int).toNat).length = 32 := row_len hog (by omega)
    rw [show 21 - i = (21 - (i + 1)) + 1 by omega, atFrom] at hx
    have ec : clashB ls ms T U i = (decide (rowOf 32 T (i : Int).toNat = rowOf 32 U (i : Int).toNat) && !decide (madeF ls T i = madeF ms U i)) := by unfold clashB; rw [Int.toNat_natCast]
    rw [ec] at hx
    by_cases h4 : 4 < i
    · have hd4 : decide (4 < (i : Int)) = true := decide_eq_true (by omega)
      by_cases h0 : rowOf 32 T (i : Int).toNat = rowOf 32 U (i : Int).toNat
      · have hd : decide (rowOf 32 T (i : Int).toNat = rowOf 32 U (i : Int).toNat) = true := decide_eq_true h0
        by_cases h1 : madeF ls T i = madeF ms U i
        · have hd1 : (!decide (madeF ls T i = madeF ms U i)) = false := by rw [decide_eq_true h1]; rfl
          rw [hd, decide_eq_true h1, if_neg (by simp)] at hx
          repeat' (first
              | refine rnB ?_
              | refine rnSB ?_
              | refine rnG ?_
              | refine rnU ?_
              | ((fail_if_success (refine rnKn ?_)); refine rnP ?_ ?_ <;> (intro hq; try (have hq' := hq; simp only [hqs] at hq')))
              | refine rkB ?_
              | refine rkSB ?_
              | refine rkF ?_
              | refine rkU ?_
              | ((fail_if_success (refine rkKn ?_)); refine rkP ?_ ?_ <;> (intro hq; try (have hq' := hq; simp only [hqs] at hq')))
              | refine stp ?_
              | refine aws_draws [] mixed (by kernel_rfl) ?_
              | refine ifT ?_
              | refine ifF ?_
              | (refine ifQ ?_ ?_ <;> (try (intro hn)))
              | (refine ifB ?_ ?_ <;> (intro hq; try (have hq' := hq; simp only [hqs] at hq'))))
          exact ⟨i + 1, _, by omega, ⟨by omega, hx⟩, .refl, by exact frA⟩
        · have hd1 : (!decide (madeF ls T i = madeF ms U i)) = true := by rw [decide_eq_false h1]; rfl
          rw [hd, decide_eq_false h1, if_pos (show (true && !false) = true from rfl)] at hx
          rw [hx]
          repeat' (first
              | refine rnB ?_
              | refine rnSB ?_
              | refine rnG ?_
              | refine rnU ?_
              | ((fail_if_success (refine rnKn ?_)); refine rnP ?_ ?_ <;> (intro hq; try (have hq' := hq; simp only [hqs] at hq')))
              | refine rkB ?_
              | refine rkSB ?_
              | refine rkF ?_
              | refine rkU ?_
              | ((fail_if_success (refine rkKn ?_)); refine rkP ?_ ?_ <;> (intro hq; try (have hq' := hq; simp only [hqs] at hq')))
              | refine stp ?_
              | refine aws_draws [] mixed (by kernel_rfl) ?_
              | refine ifT ?_
              | refine ifF ?_
              | (refine ifQ ?_ ?_ <;> (try (intro hn)))
              | (refine ifB ?_ ?_ <;> (intro hq; try (have hq' := hq; simp only [hqs] at hq'))))
          exact rt1 rfl rfl finS_p rfl
      · have hd : decide (rowOf 32 T (i : Int).toNat = rowOf 32 U (i : Int).toNat) = false := decide_eq_false h0
        rw [hd, if_neg (by simp)] at hx
        repeat' (first
            | refine rnB ?_
            | refine rnSB ?_
            | refine rnG ?_
            | refine rnU ?_
            | ((fail_if_success (refine rnKn ?_)); refine rnP ?_ ?_ <;> (intro hq; try (have hq' := hq; simp only [hqs] at hq')))
            | refine rkB ?_
            | refine rkSB ?_
            | refine rkF ?_
            | refine rkU ?_
            | ((fail_if_success (refine rkKn ?_)); refine rkP ?_ ?_ <;> (intro hq; try (have hq' := hq; simp only [hqs] at hq')))
            | refine stp ?_
            | refine aws_draws [] mixed (by kernel_rfl) ?_
            | refine ifT ?_
            | refine ifF ?_
            | (refine ifQ ?_ ?_ <;> (try (intro hn)))
            | (refine ifB ?_ ?_ <;> (intro hq; try (have hq' := hq; simp only [hqs] at hq'))))
        exact ⟨i + 1, _, by omega, ⟨by omega, hx⟩, .refl, by exact frA⟩
    · have hd4 : decide (4 < (i : Int)) = false := decide_eq_false (by omega)
      have e1 : madeF ls T i = belowF T i := made_out (by omega)
      have e2 : madeF ms U i = belowF U i := made_out (by omega)
      rw [e1, e2] at hx
      by_cases h0 : rowOf 32 T (i : Int).toNat = rowOf 32 U (i : Int).toNat
      · have hd : decide (rowOf 32 T (i : Int).toNat = rowOf 32 U (i : Int).toNat) = true := decide_eq_true h0
        by_cases h1 : belowF T i = belowF U i
        · have hd1 : (!decide (belowF T i = belowF U i)) = false := by rw [decide_eq_true h1]; rfl
          rw [hd, decide_eq_true h1, if_neg (by simp)] at hx
          repeat' (first
              | refine rnB ?_
              | refine rnSB ?_
              | refine rnG ?_
              | refine rnU ?_
              | ((fail_if_success (refine rnKn ?_)); refine rnP ?_ ?_ <;> (intro hq; try (have hq' := hq; simp only [hqs] at hq')))
              | refine rkB ?_
              | refine rkSB ?_
              | refine rkF ?_
              | refine rkU ?_
              | ((fail_if_success (refine rkKn ?_)); refine rkP ?_ ?_ <;> (intro hq; try (have hq' := hq; simp only [hqs] at hq')))
              | refine stp ?_
              | refine aws_draws [] mixed (by kernel_rfl) ?_
              | refine ifT ?_
              | refine ifF ?_
              | (refine ifQ ?_ ?_ <;> (try (intro hn)))
              | (refine ifB ?_ ?_ <;> (intro hq; try (have hq' := hq; simp only [hqs] at hq'))))
          exact ⟨i + 1, _, by omega, ⟨by omega, hx⟩, .refl, by exact frA⟩
        · have hd1 : (!decide (belowF T i = belowF U i)) = true := by rw [decide_eq_false h1]; rfl
          rw [hd, decide_eq_false h1, if_pos (show (true && !false) = true from rfl)] at hx
          rw [hx]
          repeat' (first
              | refine rnB ?_
              | refine rnSB ?_
              | refine rnG ?_
              | refine rnU ?_
              | ((fail_if_success (refine rnKn ?_)); refine rnP ?_ ?_ <;> (intro hq; try (have hq' := hq; simp only [hqs] at hq')))
              | refine rkB ?_
              | refine rkSB ?_
              | refine rkF ?_
              | refine rkU ?_
              | ((fail_if_success (refine rkKn ?_)); refine rkP ?_ ?_ <;> (intro hq; try (have hq' := hq; simp only [hqs] at hq')))
              | refine stp ?_
              | refine aws_draws [] mixed (by kernel_rfl) ?_
              | refine ifT ?_
              | refine ifF ?_
              | (refine ifQ ?_ ?_ <;> (try (intro hn)))
              | (refine ifB ?_ ?_ <;> (intro hq; try (have hq' := hq; simp only [hqs] at hq'))))
          exact rt1 rfl rfl finS_p rfl
      · have hd : decide (rowOf 32 T (i : Int).toNat = rowOf 32 U (i : Int).toNat) = false := decide_eq_false h0
        rw [hd, if_neg (by simp)] at hx
        repeat' (first
            | refine rnB ?_
            | refine rnSB ?_
            | refine rnG ?_
            | refine rnU ?_
            | ((fail_if_success (refine rnKn ?_)); refine rnP ?_ ?_ <;> (intro hq; try (have hq' := hq; simp only [hqs] at hq')))
            | refine rkB ?_
            | refine rkSB ?_
            | refine rkF ?_
            | refine rkU ?_
            | ((fail_if_success (refine rkKn ?_)); refine rkP ?_ ?_ <;> (intro hq; try (have hq' := hq; simp only [hqs] at hq')))
            | refine stp ?_
            | refine aws_draws [] mixed (by kernel_rfl) ?_
            | refine ifT ?_
            | refine ifF ?_
            | (refine ifQ ?_ ?_ <;> (try (intro hn)))
            | (refine ifB ?_ ?_ <;> (intro hq; try (have hq' := hq; simp only [hqs] at hq'))))
        exact ⟨i + 1, _, by omega, ⟨by omega, hx⟩, .refl, by exact frA⟩
  · have hlt : decide ((i : Int) < 21) = false := decide_eq_false (by omega)
    rw [show 21 - i = 0 by omega, atFrom] at hx
    rw [hx]
    repeat' (first
        | refine rnB ?_
        | refine rnSB ?_
        | refine rnG ?_
        | refine rnU ?_
        | ((fail_if_success (refine rnKn ?_)); refine rnP ?_ ?_ <;> (intro hq; try (have hq' := hq; simp only [hqs] at hq')))
        | refine rkB ?_
        | refine rkSB ?_
        | refine rkF ?_
        | refine rkU ?_
        | ((fail_if_success (refine rkKn ?_)); refine rkP ?_ ?_ <;> (intro hq; try (have hq' := hq; simp only [hqs] at hq')))
        | refine stp ?_
        | refine aws_draws [] mixed (by kernel_rfl) ?_
        | refine ifT ?_
        | refine ifF ?_
        | (refine ifQ ?_ ?_ <;> (try (intro hn)))
        | (refine ifB ?_ ?_ <;> (intro hq; try (have hq' := hq; simp only [hqs] at hq'))))
    exact rt1 rfl rfl finS_p rfl
instance {ls ms : List (List Nat)} : PC Try.prog 17 [strs ls, strs ms] (few ls ∧ few ms ∧ okT ls ∧ okT ms) (.p (.i (atF ls ms (ofF ls) (ofF ms)))) := ⟨at_r ls ms⟩
theorem exact_r (ls ms : List (List Nat)) (h : few ls ∧ few ms ∧ okT ls ∧ okT ms) : PCall Try.prog 23 [strs ls, strs ms] (.p (.b (decide (exTo ls ms (leavesL (walkF (ofF ls) (ofF ms)).1) 16)))) := by
  refine pcall_of Try.func23 rfl (fun w0 F S0 M0 => ?_)
  obtain ⟨hl, hm, ol, om⟩ := h
  have hl16 := hl.1
  have hm16 := hm.1
  have hof := ofF_len ls
  have hog := ofF_len ms
  rw [← exR_is, ← dfO_is]
  repeat' (first
      | refine rnB ?_
      | refine rnSB ?_
      | refine rnG ?_
      | refine rnU ?_
      | ((fail_if_success (refine rnKn ?_)); refine rnP ?_ ?_ <;> (intro hq; try (have hq' := hq; simp only [hqs] at hq')))
      | refine rkB ?_
      | refine rkSB ?_
      | refine rkF ?_
      | refine rkU ?_
      | ((fail_if_success (refine rkKn ?_)); refine rkP ?_ ?_ <;> (intro hq; try (have hq' := hq; simp only [hqs] at hq')))
      | refine stp ?_
      | refine aws_draws [] mixed (by kernel_rfl) ?_
      | refine ifT ?_
      | refine ifF ?_
      | (refine ifQ ?_ ?_ <;> (try (intro hn)))
      | (refine ifB ?_ ?_ <;> (intro hq; try (have hq' := hq; simp only [hqs] at hq'))))
  have hdl := dfO_len (T := ofF ls) (U := ofF ms) 21
  generalize dfO (ofF ls) (ofF ms) 21 = l at *
  obtain ⟨A, hA⟩ : ∃ A, A = exR ls ms l 0 0 16 := ⟨_, rfl⟩
  rw [← hA]
  refine aws_loopS [4, 8, 9, 19, 20, 21, 22, 23, 24, 25, 26, 27, 28, 29, 30, 31, 32, 33, 34, 35, 36, 37, 38, 39, 40, 41, 42, 43] [] (fun (x : Nat × Nat) => [(8, .p (.i x.2)), (9, .p (.i x.1))]) (fun _ => []) (fun x => x.1 ≤ 16 ∧ x.2 ≤ x.1 ∧ A = exR ls ms l x.1 x.2 (16 - x.1)) (fun x => 16 - x.1) (0, 0) ⟨Nat.zero_le _, Nat.zero_le _, hA⟩ (by exact knA) (by exact knA) ?_
  rintro ⟨i, k⟩ β γ ⟨hi, hk, hx⟩
  simp only at hi hk hx
  have o1 := okT_get ol (i : Int).toNat
  have o2 := okT_get om (i : Int).toNat
  dsimp only
  by_cases h16 : i < 16
  · have hlt : decide ((i : Int) < 16) = true := decide_eq_true (by omega)
    rw [show 16 - i = (16 - (i + 1)) + 1 by omega, exR] at hx
    by_cases he : ls.getD (i : Int).toNat default = ms.getD (i : Int).toNat default
    · have hd : decide (ls.getD (i : Int).toNat default = ms.getD (i : Int).toNat default) = true := decide_eq_true he
      rw [Int.toNat_natCast] at he
      rw [if_pos he] at hx
      repeat' (first
          | refine rnB ?_
          | refine rnSB ?_
          | refine rnG ?_
          | refine rnU ?_
          | ((fail_if_success (refine rnKn ?_)); refine rnP ?_ ?_ <;> (intro hq; try (have hq' := hq; simp only [hqs] at hq')))
          | refine rkB ?_
          | refine rkSB ?_
          | refine rkF ?_
          | refine rkU ?_
          | ((fail_if_success (refine rkKn ?_)); refine rkP ?_ ?_ <;> (intro hq; try (have hq' := hq; simp only [hqs] at hq')))
          | refine stp ?_
          | refine aws_draws [] mixed (by kernel_rfl) ?_
          | refine ifT ?_
          | refine ifF ?_
          | (refine ifQ ?_ ?_ <;> (try (intro hn)))
          | (refine ifB ?_ ?_ <;> (intro hq; try (have hq' := hq; simp only [hqs] at hq'))))
      exact ⟨(i + 1, k), _, by dsimp only; omega, ⟨by dsimp only; omega, by dsimp only; omega, hx⟩, .refl, by exact frA⟩
    · have hd : decide (ls.getD (i : Int).toNat default = ms.getD (i : Int).toNat default) = false := decide_eq_false he
      rw [Int.toNat_natCast] at he
      rw [if_neg he] at hx
      by_cases hkl : k < l.length
      · have hg : decide ((l.length : Int) ≤ (k : Int)) = false := decide_eq_false (by omega)
        by_cases hv : l.getD (k : Int).toNat default = (i : Int)
        · have hg2 : decide (l.getD (k : Int).toNat default ≠ (i : Int)) = false := decide_eq_false fun q => q hv
          rw [Int.toNat_natCast] at hv
          rw [if_pos ⟨hkl, hv⟩] at hx
          repeat' (first
              | refine rnB ?_
              | refine rnSB ?_
              | refine rnG ?_
              | refine rnU ?_
              | ((fail_if_success (refine rnKn ?_)); refine rnP ?_ ?_ <;> (intro hq; try (have hq' := hq; simp only [hqs] at hq')))
              | refine rkB ?_
              | refine rkSB ?_
              | refine rkF ?_
              | refine rkU ?_
              | ((fail_if_success (refine rkKn ?_)); refine rkP ?_ ?_ <;> (intro hq; try (have hq' := hq; simp only [hqs] at hq')))
              | refine stp ?_
              | refine aws_draws [] mixed (by kernel_rfl) ?_
              | refine ifT ?_
              | refine ifF ?_
              | (refine ifQ ?_ ?_ <;> (try (intro hn)))
              | (refine ifB ?_ ?_ <;> (intro hq; try (have hq' := hq; simp only [hqs] at hq'))))
          exact ⟨(i + 1, k + 1), _, by dsimp only; omega, ⟨by dsimp only; omega, by dsimp only; omega, hx⟩, .refl, by exact frA⟩
        · have hg2 : decide (l.getD (k : Int).toNat default ≠ (i : Int)) = true := decide_eq_true hv
          rw [Int.toNat_natCast] at hv
          rw [if_neg fun q => hv q.2] at hx
          rw [hx]
          repeat' (first
              | refine rnB ?_
              | refine rnSB ?_
              | refine rnG ?_
              | refine rnU ?_
              | ((fail_if_success (refine rnKn ?_)); refine rnP ?_ ?_ <;> (intro hq; try (have hq' := hq; simp only [hqs] at hq')))
              | refine rkB ?_
              | refine rkSB ?_
              | refine rkF ?_
              | refine rkU ?_
              | ((fail_if_success (refine rkKn ?_)); refine rkP ?_ ?_ <;> (intro hq; try (have hq' := hq; simp only [hqs] at hq')))
              | refine stp ?_
              | refine aws_draws [] mixed (by kernel_rfl) ?_
              | refine ifT ?_
              | refine ifF ?_
              | (refine ifQ ?_ ?_ <;> (try (intro hn)))
              | (refine ifB ?_ ?_ <;> (intro hq; try (have hq' := hq; simp only [hqs] at hq'))))
          exact rt1 rfl rfl finS_p rfl
      · have hg : decide ((l.length : Int) ≤ (k : Int)) = true := decide_eq_true (by omega)
        rw [if_neg fun q => hkl q.1] at hx
        rw [hx]
        repeat' (first
            | refine rnB ?_
            | refine rnSB ?_
            | refine rnG ?_
            | refine rnU ?_
            | ((fail_if_success (refine rnKn ?_)); refine rnP ?_ ?_ <;> (intro hq; try (have hq' := hq; simp only [hqs] at hq')))
            | refine rkB ?_
            | refine rkSB ?_
            | refine rkF ?_
            | refine rkU ?_
            | ((fail_if_success (refine rkKn ?_)); refine rkP ?_ ?_ <;> (intro hq; try (have hq' := hq; simp only [hqs] at hq')))
            | refine stp ?_
            | refine aws_draws [] mixed (by kernel_rfl) ?_
            | refine ifT ?_
            | refine ifF ?_
            | (refine ifQ ?_ ?_ <;> (try (intro hn)))
            | (refine ifB ?_ ?_ <;> (intro hq; try (have hq' := hq; simp only [hqs] at hq'))))
        exact rt1 rfl rfl finS_p rfl
  · have hlt : decide ((i : Int) < 16) = false := decide_eq_false (by omega)
    rw [show 16 - i = 0 by omega, exR] at hx
    rw [hx]
    repeat' (first
        | refine rnB ?_
        | refine rnSB ?_
        | refine rnG ?_
        | refine rnU ?_
        | ((fail_if_success (refine rnKn ?_)); refine rnP ?_ ?_ <;> (intro hq; try (have hq' := hq; simp only [hqs] at hq')))
        | refine rkB ?_
        | refine rkSB ?_
        | refine rkF ?_
        | refine rkU ?_
        | ((fail_if_success (refine rkKn ?_)); refine rkP ?_ ?_ <;> (intro hq; try (have hq' := hq; simp only [hqs] at hq')))
        | refine stp ?_
        | refine aws_draws [] mixed (by kernel_rfl) ?_
        | refine ifT ?_
        | refine ifF ?_
        | (refine ifQ ?_ ?_ <;> (try (intro hn)))
        | (refine ifB ?_ ?_ <;> (intro hq; try (have hq' := hq; simp only [hqs] at hq'))))
    refine rt1 rfl rfl finS_p (rb ?_)
    exact decide_eq_decide.2 (by omega)
instance {ls ms : List (List Nat)} : PC Try.prog 23 [strs ls, strs ms] (few ls ∧ few ms ∧ okT ls ∧ okT ms) (.p (.b (decide (exTo ls ms (leavesL (walkF (ofF ls) (ofF ms)).1) 16)))) := ⟨exact_r ls ms⟩
end Go.Proofs.Ytpamepepibnlfaa.Cl
