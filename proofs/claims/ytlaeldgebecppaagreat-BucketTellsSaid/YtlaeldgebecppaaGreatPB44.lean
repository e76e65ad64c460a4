/- buckets, the law BucketTells -/
import Derived.Test.YtlaeldgebecppaaGreatPB42
import Derived.Test.YtlaeldgebecppaaGreatPB43
namespace Go.Proofs.YtlaeldgebecppaaGreat.Wi
open Go Go.RowKit Go.Aw Go.Aw.Sha Go.Aw.Cart Go.Proofs.YtlaeldgebecppaaGreat.Ca Go.Proofs.YtlaeldgebecppaaGreat.Rg Go.Proofs.YtlaeldgebecppaaGreat.Sh
set_option linter.unusedVariables false
set_option linter.unusedSimpArgs false
set_option maxRecDepth 8000
set_option maxHeartbeats 4000000
open M1
theorem same19_w (a b : List Int) (ex ey : Bool) (h : a.length ≤ 1000000) : PCall Tryz.prog 20 [.p (.sl 1 (a.map fun n => [PVal.i n]) ex), .p (.sl 1 (b.map fun n => [PVal.i n]) ey)] (.p (.b (decide (a = b)))) := by
  refine pcall_of Tryz.func20 rfl (fun w0 F S0 M0 => ?_)
  by_cases hl : a.length = b.length
  · have d1 : decide ((a.length : Int) ≠ (b.length : Int)) = false := decide_eq_false (by omega)
    repeat' (first | refine rnC ?_ | refine rnSB ?_ | refine rnG ?_ | refine rnU ?_ | ((fail_if_success (refine rnKn ?_)); refine rnP ?_ ?_ <;> (intro hq; try (have hq' := hq; simp only [hqs] at hq'))) | refine rkC ?_ | refine rkSB ?_ | refine rkF ?_ | refine rkU ?_ | ((fail_if_success (refine rkKn ?_)); refine rkP ?_ ?_ <;> (intro hq; try (have hq' := hq; simp only [hqs] at hq'))) | refine stp ?_ | refine aws_draws [] mixed (by kernel_rfl) ?_ | refine ifT ?_ | refine ifF ?_ | (refine ifQ ?_ ?_ <;> (try (intro hn))) | (refine ifB ?_ ?_ <;> (intro hq; try (have hq' := hq; simp only [hqs] at hq'))))
    refine aws_loopS [4, 5, 11, 12, 13, 14, 15, 16, 17, 18, 19, 20, 21, 22, 23, 24, 25] [] (fun (i : Nat) => [(5, .p (.i i))]) (fun _ => []) (fun i => i ≤ a.length ∧ ∀ j, j < i → a.getD j default = b.getD j default) (fun i => a.length - i) 0 ⟨Nat.zero_le _, fun j hj => absurd hj (Nat.not_lt_zero _)⟩ (by exact knA) (by exact knA) ?_
    rintro i β γ ⟨hi, hx⟩
    by_cases hil : i < a.length
    · have hlt : decide ((i : Int) < (a.length : Int)) = true := decide_eq_true (by omega)
      have hib : (i : Int) < (b.length : Int) := by omega
      by_cases hq : a.getD (i : Int).toNat default = b.getD (i : Int).toNat default
      · have d2 : decide (a.getD (i : Int).toNat default ≠ b.getD (i : Int).toNat default) = false := decide_eq_false fun q => q hq
        rw [Int.toNat_natCast] at hq
        repeat' (first | refine rnC ?_ | refine rnSB ?_ | refine rnG ?_ | refine rnU ?_ | ((fail_if_success (refine rnKn ?_)); refine rnP ?_ ?_ <;> (intro hq; try (have hq' := hq; simp only [hqs] at hq'))) | refine rkC ?_ | refine rkSB ?_ | refine rkF ?_ | refine rkU ?_ | ((fail_if_success (refine rkKn ?_)); refine rkP ?_ ?_ <;> (intro hq; try (have hq' := hq; simp only [hqs] at hq'))) | refine stp ?_ | refine aws_draws [] mixed (by kernel_rfl) ?_ | refine ifT ?_ | refine ifF ?_ | (refine ifQ ?_ ?_ <;> (try (intro hn))) | (refine ifB ?_ ?_ <;> (intro hq; try (have hq' := hq; simp only [hqs] at hq'))))
        refine ⟨i + 1, _, by omega, ⟨by omega, fun j hj => ?_⟩, .refl, by exact frA⟩
        by_cases ej : j = i
        · rw [ej]; exact hq
        · exact hx j (by omega)
      · have d2 : decide (a.getD (i : Int).toNat default ≠ b.getD (i : Int).toNat default) = true := decide_eq_true hq
        rw [decide_eq_false (show ¬ a = b from fun q => hq (by rw [q]))]
        as_aux_lemma =>
          repeat' (first | refine rnC ?_ | refine rnSB ?_ | refine rnG ?_ | refine rnU ?_ | ((fail_if_success (refine rnKn ?_)); refine rnP ?_ ?_ <;> (intro hq; try (have hq' := hq; simp only [hqs] at hq'))) | refine rkC ?_ | refine rkSB ?_ | refine rkF ?_ | refine rkU ?_ | ((fail_if_success (refine rkKn ?_)); refine rkP ?_ ?_ <;> (intro hq; try (have hq' := hq; simp only [hqs] at hq'))) | refine stp ?_ | refine aws_draws [] mixed (by kernel_rfl) ?_ | refine ifT ?_ | refine ifF ?_ | (refine ifQ ?_ ?_ <;> (try (intro hn))) | (refine ifB ?_ ?_ <;> (intro hq; try (have hq' := hq; simp only [hqs] at hq'))))
          exact rt1 rfl rfl finS_p rfl
    · have hlt : decide ((i : Int) < (a.length : Int)) = false := decide_eq_false (by omega)
      have e : a = b := List.ext_getElem hl fun j h1 h2 => by
        have := hx j (by omega)
        rwa [List.getD_eq_getElem?_getD, List.getD_eq_getElem?_getD, List.getElem?_eq_getElem h1, List.getElem?_eq_getElem h2] at this
      rw [decide_eq_true e]
      as_aux_lemma =>
        repeat' (first | refine rnC ?_ | refine rnSB ?_ | refine rnG ?_ | refine rnU ?_ | ((fail_if_success (refine rnKn ?_)); refine rnP ?_ ?_ <;> (intro hq; try (have hq' := hq; simp only [hqs] at hq'))) | refine rkC ?_ | refine rkSB ?_ | refine rkF ?_ | refine rkU ?_ | ((fail_if_success (refine rkKn ?_)); refine rkP ?_ ?_ <;> (intro hq; try (have hq' := hq; simp only [hqs] at hq'))) | refine stp ?_ | refine aws_draws [] mixed (by kernel_rfl) ?_ | refine ifT ?_ | refine ifF ?_ | (refine ifQ ?_ ?_ <;> (try (intro hn))) | (refine ifB ?_ ?_ <;> (intro hq; try (have hq' := hq; simp only [hqs] at hq'))))
        exact rt1 rfl rfl finS_p rfl
  · have d1 : decide ((a.length : Int) ≠ (b.length : Int)) = true := decide_eq_true (by omega)
    rw [decide_eq_false (show ¬ a = b from fun q => hl (by rw [q]))]
    as_aux_lemma =>
      repeat' (first | refine rnC ?_ | refine rnSB ?_ | refine rnG ?_ | refine rnU ?_ | ((fail_if_success (refine rnKn ?_)); refine rnP ?_ ?_ <;> (intro hq; try (have hq' := hq; simp only [hqs] at hq'))) | refine rkC ?_ | refine rkSB ?_ | refine rkF ?_ | refine rkU ?_ | ((fail_if_success (refine rkKn ?_)); refine rkP ?_ ?_ <;> (intro hq; try (have hq' := hq; simp only [hqs] at hq'))) | refine stp ?_ | refine aws_draws [] mixed (by kernel_rfl) ?_ | refine ifT ?_ | refine ifF ?_ | (refine ifQ ?_ ?_ <;> (try (intro hn))) | (refine ifB ?_ ?_ <;> (intro hq; try (have hq' := hq; simp only [hqs] at hq'))))
      exact rt1 rfl rfl finS_p rfl
theorem refUnlike_w (X Y : List (List Nat)) (hX : X.length = 16) (hY : Y.length = 16) (kX : ∀ j, okB (X.getD j default)) (kY : ∀ j, okB (Y.getD j default)) : PCall Tryz.prog 23 [.a (X.map fun b => .p (.v (.string (strOf b)))), .a (Y.map fun b => .p (.v (.string (strOf b))))] (.p (.sl 1 ((lvTo (fun j => !decide (X.getD j default = Y.getD j default)) 16).map fun n => [PVal.i n]) false)) := by
  refine pcall_of Tryz.func23 rfl (fun w0 F S0 M0 => ?_)
  obtain ⟨A, hA⟩ : ∃ A, A = lvTo (fun j => !decide (X.getD j default = Y.getD j default)) 16 := ⟨_, rfl⟩
  rw [← hA]
  repeat' (first | refine rnC ?_ | refine rnSB ?_ | refine rnG ?_ | refine rnU ?_ | ((fail_if_success (refine rnKn ?_)); refine rnP ?_ ?_ <;> (intro hq; try (have hq' := hq; simp only [hqs] at hq'))) | refine rkC ?_ | refine rkSB ?_ | refine rkF ?_ | refine rkU ?_ | ((fail_if_success (refine rkKn ?_)); refine rkP ?_ ?_ <;> (intro hq; try (have hq' := hq; simp only [hqs] at hq'))) | refine stp ?_ | refine aws_draws [] mixed (by kernel_rfl) ?_ | refine ifT ?_ | refine ifF ?_ | (refine ifQ ?_ ?_ <;> (try (intro hn))) | (refine ifB ?_ ?_ <;> (intro hq; try (have hq' := hq; simp only [hqs] at hq'))))
  refine aws_says (says_nil (t := 5) (o := 31) (es := 1) (ty := 3) rfl rfl (by decide)) ?_
  refine aws_loopS [5, 6, 7, 8, 9, 10, 11, 12, 13, 14, 15, 16, 17, 18, 19, 20, 21] [31] (fun (x : Nat × Nat × List Int) => [(6, .p (.i x.1)), (5, .o (.osl 31 x.2.1 1 0 x.2.2.length))]) (fun x => [(31, (x.2.1 + 1, some (.buf 3 1 (x.2.2.map fun n => [PVal.i n]))))]) (fun x => x.1 ≤ 16 ∧ x.2.2 = lvTo (fun j => !decide (X.getD j default = Y.getD j default)) x.1) (fun x => 16 - x.1) (0, 0, []) ⟨Nat.zero_le _, rfl⟩ (by exact knA) (by exact knA) ?_
  rintro ⟨i, g, out⟩ β γ ⟨hi, hout⟩
  dsimp only at hi hout ⊢
  have hol : out.length ≤ 16 := by rw [hout]; exact Nat.le_trans (lvTo_len _ _) hi
  by_cases hil : i < 16
  · have d1 : decide ((i : Int) < 16) = true := decide_eq_true (by omega)
    have q1 := kX (i : Int).toNat
    have q2 := kY (i : Int).toNat
    by_cases hp : X.getD i default = Y.getD i default
    · have d2 : (!decide (X.getD (i : Int).toNat default = Y.getD (i : Int).toNat default)) = false := by rw [Int.toNat_natCast, decide_eq_true hp]; rfl
      have hs : lvTo (fun j => !decide (X.getD j default = Y.getD j default)) (i + 1) = lvTo (fun j => !decide (X.getD j default = Y.getD j default)) i := by rw [lvTo, if_neg (by rw [decide_eq_true hp]; simp)]
      as_aux_lemma =>
        repeat' (first | refine rnC ?_ | refine rnSB ?_ | refine rnG ?_ | refine rnU ?_ | ((fail_if_success (refine rnKn ?_)); refine rnP ?_ ?_ <;> (intro hq; try (have hq' := hq; simp only [hqs] at hq'))) | refine rkC ?_ | refine rkSB ?_ | refine rkF ?_ | refine rkU ?_ | ((fail_if_success (refine rkKn ?_)); refine rkP ?_ ?_ <;> (intro hq; try (have hq' := hq; simp only [hqs] at hq'))) | refine stp ?_ | refine aws_draws [] mixed (by kernel_rfl) ?_ | refine ifT ?_ | refine ifF ?_ | (refine ifQ ?_ ?_ <;> (try (intro hn))) | (refine ifB ?_ ?_ <;> (intro hq; try (have hq' := hq; simp only [hqs] at hq'))))
        exact ⟨(i + 1, g, out), _, by dsimp only; omega, ⟨by dsimp only; omega, by dsimp only; rw [hs, hout]⟩, .refl, by exact frA⟩
    · have d2 : (!decide (X.getD (i : Int).toNat default = Y.getD (i : Int).toNat default)) = true := by rw [Int.toNat_natCast, decide_eq_false hp]; rfl
      have hs : lvTo (fun j => !decide (X.getD j default = Y.getD j default)) (i + 1) = lvTo (fun j => !decide (X.getD j default = Y.getD j default)) i ++ [(i : Int)] := by rw [lvTo, if_pos (by rw [decide_eq_false hp]; rfl)]
      as_aux_lemma =>
        repeat' (first | refine rnC ?_ | refine rnSB ?_ | refine rnG ?_ | refine rnU ?_ | ((fail_if_success (refine rnKn ?_)); refine rnP ?_ ?_ <;> (intro hq; try (have hq' := hq; simp only [hqs] at hq'))) | refine rkC ?_ | refine rkSB ?_ | refine rkF ?_ | refine rkU ?_ | ((fail_if_success (refine rkKn ?_)); refine rkP ?_ ?_ <;> (intro hq; try (have hq' := hq; simp only [hqs] at hq'))) | refine stp ?_ | refine aws_draws [] mixed (by kernel_rfl) ?_ | refine ifT ?_ | refine ifF ?_ | (refine ifQ ?_ ?_ <;> (try (intro hn))) | (refine ifB ?_ ?_ <;> (intro hq; try (have hq' := hq; simp only [hqs] at hq'))))
        exact ⟨(i + 1, g + 1, out ++ [(i : Int)]), _, by dsimp only; omega, ⟨by dsimp only; omega, by dsimp only; rw [hs, hout]⟩, .refl, by exact frA⟩
  · have d1 : decide ((i : Int) < 16) = false := decide_eq_false (by omega)
    obtain rfl : i = 16 := by omega
    rw [hA, ← hout]
    clear hout hA
    as_aux_lemma =>
      repeat' (first | refine rnC ?_ | refine rnSB ?_ | refine rnG ?_ | refine rnU ?_ | ((fail_if_success (refine rnKn ?_)); refine rnP ?_ ?_ <;> (intro hq; try (have hq' := hq; simp only [hqs] at hq'))) | refine rkC ?_ | refine rkSB ?_ | refine rkF ?_ | refine rkU ?_ | ((fail_if_success (refine rkKn ?_)); refine rkP ?_ ?_ <;> (intro hq; try (have hq' := hq; simp only [hqs] at hq'))) | refine stp ?_ | refine aws_draws [] mixed (by kernel_rfl) ?_ | refine ifT ?_ | refine ifF ?_ | (refine ifQ ?_ ?_ <;> (try (intro hn))) | (refine ifB ?_ ?_ <;> (intro hq; try (have hq' := hq; simp only [hqs] at hq'))))
      exact rt1 rfl rfl (.one (finC_map rfl rfl rfl rfl)) rfl
theorem lvTo_congr {p q : Nat → Bool} : ∀ {k : Nat}, (∀ j, j < k → p j = q j) → lvTo p k = lvTo q k
  | 0, _ => rfl
  | k + 1, h => by rw [lvTo, lvTo, h k (by omega), lvTo_congr fun j hj => h j (by omega)]
theorem listB_nil {l : List Kd} : listB l = [0] ↔ l = [] := by
  cases l with
  | nil => exact ⟨fun _ => rfl, fun _ => rfl⟩
  | cons e l =>
    refine ⟨fun h => ?_, fun h => by cases h⟩
    exfalso
    have h1 := congrArg List.length h
    unfold listB at h1
    rw [List.length_append, List.length_cons] at h1
    have h2 : 2 ≤ (numB (l.length + 1)).length := by
      have : (beF 8 (l.length + 1)).length = (beF 7 ((l.length + 1) / 256)).length + 1 := beF_step (f := 7) (x := l.length + 1) (by omega)
      show 2 ≤ ((beF 8 (l.length + 1)).length :: beF 8 (l.length + 1)).length
      rw [List.length_cons]; omega
    have h3 : ([0] : List Nat).length = 1 := rfl
    omega
theorem pos_ne {l : List Kd} : decide (0 < l.length) = !decide (listB l = [0]) := by
  by_cases h : l = []
  · rw [decide_eq_true (listB_nil.2 h), h]; rfl
  · rw [decide_eq_false fun q => h (listB_nil.1 q), decide_eq_true (List.length_pos_iff.2 h)]; rfl
theorem bucketTells_w (a b : List Kd) (ex ey : Bool) (part leaf : Int) (hal : a.length ≤ 9223372036854775807) (hbl : b.length ≤ 9223372036854775807) (ka : ∀ k ∈ a, KdI k) (kb : ∀ k ∈ b, KdI k) : PCall Tryz.prog 3 [.p (.sl 10 (a.map kR) ex), .p (.sl 10 (b.map kR) ey), .p (.i part), .p (.i leaf)] (.p (.b true)) := by
  refine pcall_of Tryz.func3 rfl (fun w0 F S0 M0 => ?_)
  have c0 := pgreat_w a ex hal
  have c1 := pgreat_w b ey hbl
  cases hg : greatL a with
  | true =>
    rw [hg] at c0
    haveI : PC Tryz.prog 10 [.p (.sl 10 (a.map kR) ex)] True (.p (.b true)) := ⟨fun _ => c0⟩
    as_aux_lemma =>
      repeat' (first | refine rnC ?_ | refine rnSB ?_ | refine rnG ?_ | refine rnU ?_ | ((fail_if_success (refine rnKn ?_)); refine rnP ?_ ?_ <;> (intro hq; try (have hq' := hq; simp only [hqs] at hq'))) | refine rkC ?_ | refine rkSB ?_ | refine rkF ?_ | refine rkU ?_ | ((fail_if_success (refine rkKn ?_)); refine rkP ?_ ?_ <;> (intro hq; try (have hq' := hq; simp only [hqs] at hq'))) | refine stp ?_ | refine ifT ?_ | refine ifF ?_ | (refine ifQ ?_ ?_ <;> (try (intro hn))) | (refine ifB ?_ ?_ <;> (intro hq; try (have hq' := hq; simp only [hqs] at hq'))))
      exact rt1 rfl rfl finS_p rfl
  | false =>
  rw [hg] at c0
  haveI : PC Tryz.prog 10 [.p (.sl 10 (a.map kR) ex)] True (.p (.b false)) := ⟨fun _ => c0⟩
  have ha := lin_of hg ka hal
  cases hh : greatL b with
  | true =>
    rw [hh] at c1
    haveI : PC Tryz.prog 10 [.p (.sl 10 (b.map kR) ey)] True (.p (.b true)) := ⟨fun _ => c1⟩
    as_aux_lemma =>
      repeat' (first | refine rnC ?_ | refine rnSB ?_ | refine rnG ?_ | refine rnU ?_ | ((fail_if_success (refine rnKn ?_)); refine rnP ?_ ?_ <;> (intro hq; try (have hq' := hq; simp only [hqs] at hq'))) | refine rkC ?_ | refine rkSB ?_ | refine rkF ?_ | refine rkU ?_ | ((fail_if_success (refine rkKn ?_)); refine rkP ?_ ?_ <;> (intro hq; try (have hq' := hq; simp only [hqs] at hq'))) | refine stp ?_ | refine ifT ?_ | refine ifF ?_ | (refine ifQ ?_ ?_ <;> (try (intro hn))) | (refine ifB ?_ ?_ <;> (intro hq; try (have hq' := hq; simp only [hqs] at hq'))))
      exact rt1 rfl rfl finS_p rfl
  | false =>
  rw [hh] at c1
  haveI : PC Tryz.prog 10 [.p (.sl 10 (b.map kR) ey)] True (.p (.b false)) := ⟨fun _ => c1⟩
  have hb := lin_of hh kb hbl
  have fa := fun k hk => (greatL_no hg).2 k hk
  have fb := fun k hk => (greatL_no hh).2 k hk
  have al := ha.len
  have bl := hb.len
  haveI i1 : PC Tryz.prog 13 [.p (.sl 10 (a.map kR) ex)] True (.p (.sl 10 (a.map kR) false)) := ⟨fun _ => asK_w a ex al ka fun k hk => by have := (fa k hk).2; omega⟩
  haveI i2 : PC Tryz.prog 13 [.p (.sl 10 (b.map kR) ey)] True (.p (.sl 10 (b.map kR) false)) := ⟨fun _ => asK_w b ey bl kb fun k hk => by have := (fb k hk).2; omega⟩
  have hX := txsF_len a part
  have hY := txsF_len b part
  have kX := fun j => txs_ok a part j ha
  have kY := fun j => txs_ok b part j hb
  have hV : lvTo (fun j => decide (0 < ((bktsF a part).getD j default).length)) 16 = lvTo (fun j => !decide ((txsF a part).getD j default = [0])) 16 := lvTo_congr fun j hj => by
    rw [txs_get a part hj, show ((bktsF a part).getD j default) = ((bktsF a part).getD j []) from rfl]
    exact pos_ne
  have t1 := texts_w a ex part ha
  have t2 := refTexts_w a false part ha
  have t3 := refTexts_w b false part hb
  have t4 := unlike_w a b ex ey part ha hb
  have t5 := refUnlike_w (txsF a part) (txsF b part) hX hY kX kY
  have t6 := leaves_w a ex part ha
  rw [hV] at t6
  unfold unlF at t4
  have t7 := of_w a ex part leaf ha
  have t8 := refOf_w a false part leaf ha
  have t9 := text_w a ex part leaf ha
  have t10 := refTextB_w a false part leaf ha
  obtain ⟨b1, b2⟩ := of_ok ha part leaf
  have b3 : ∀ k ∈ ofF' a part leaf, k ∈ a := by
    unfold ofF'
    split
    · exact bk_sub
    · exact fun k hk => by cases hk
  have bf := b1.few
  have t11 := asK_w (ofF' a part leaf) false (by omega) b2 fun k hk => by have := (fa k (b3 k hk)).2; omega
  have t12 := refSame10_w (ofF' a part leaf) false false (by omega) b2 fun k hk => by have := (fa k (b3 k hk)).2; omega
  have kS : okB (listB (ofF' a part leaf)) := listB_ok fun k hk => (b2 k hk).key
  clear b1 b2 b3 hV
  generalize ofF' a part leaf = B at *
  generalize listB B = S at *
  obtain ⟨U, hU⟩ : ∃ U, U = lvTo (fun j => !decide ((txsF a part).getD j default = (txsF b part).getD j default)) 16 := ⟨_, rfl⟩
  rw [← hU] at t4 t5
  have hUl : U.length ≤ 16 := by rw [hU]; exact lvTo_len _ _
  clear hU
  generalize txsF a part = X at *
  generalize txsF b part = Y at *
  obtain ⟨V, hV⟩ : ∃ V, V = lvTo (fun j => !decide (X.getD j default = [0])) 16 := ⟨_, rfl⟩
  rw [← hV] at t6
  have hVl : V.length ≤ 16 := by rw [hV]; exact lvTo_len _ _
  haveI i3 : PC Tryz.prog 14 [.p (.sl 10 (a.map kR) ex), .p (.i part)] True (.a (X.map fun b => .p (.sl 1 (b.map bR) false))) := ⟨fun _ => t1⟩
  haveI i4 : PC Tryz.prog 12 [.p (.sl 10 (a.map kR) false), .p (.i part)] True (.a (X.map fun b => .p (.v (.string (strOf b))))) := ⟨fun _ => t2⟩
  haveI i5 : PC Tryz.prog 12 [.p (.sl 10 (b.map kR) false), .p (.i part)] True (.a (Y.map fun b => .p (.v (.string (strOf b))))) := ⟨fun _ => t3⟩
  haveI i6 : PC Tryz.prog 22 [.p (.sl 10 (a.map kR) ex), .p (.sl 10 (b.map kR) ey), .p (.i part)] True (.p (.sl 1 (U.map fun n => [PVal.i n]) false)) := ⟨fun _ => t4⟩
  haveI i7 : PC Tryz.prog 23 [.a (X.map fun b => .p (.v (.string (strOf b)))), .a (Y.map fun b => .p (.v (.string (strOf b))))] True (.p (.sl 1 (U.map fun n => [PVal.i n]) false)) := ⟨fun _ => t5⟩
  haveI i8 : PC Tryz.prog 21 [.p (.sl 10 (a.map kR) ex), .p (.i part)] True (.p (.sl 1 (V.map fun n => [PVal.i n]) false)) := ⟨fun _ => t6⟩
  haveI i9 : PC Tryz.prog 16 [.p (.sl 10 (a.map kR) ex), .p (.i part), .p (.i leaf)] True (.p (.sl 10 (B.map kR) false)) := ⟨fun _ => t7⟩
  haveI i10 : PC Tryz.prog 17 [.p (.sl 10 (a.map kR) false), .p (.i part), .p (.i leaf)] True (.p (.sl 10 (B.map kR) false)) := ⟨fun _ => t8⟩
  haveI i11 : PC Tryz.prog 18 [.p (.sl 10 (a.map kR) ex), .p (.i part), .p (.i leaf)] True (.p (.sl 1 (S.map bR) false)) := ⟨fun _ => t9⟩
  haveI i12 : PC Tryz.prog 19 [.p (.sl 10 (a.map kR) false), .p (.i part), .p (.i leaf)] True (.p (.v (.string (strOf S)))) := ⟨fun _ => t10⟩
  haveI i13 : PC Tryz.prog 13 [.p (.sl 10 (B.map kR) false)] True (.p (.sl 10 (B.map kR) false)) := ⟨fun _ => t11⟩
  haveI i14 : PC Tryz.prog 15 [.p (.sl 10 (B.map kR) false), .p (.sl 10 (B.map kR) false)] True (.p (.b true)) := ⟨fun _ => t12⟩
  haveI i15 : ∀ W : List Int, PC Tryz.prog 20 [.p (.sl 1 (W.map fun n => [PVal.i n]) false), .p (.sl 1 (W.map fun n => [PVal.i n]) false)] (W.length ≤ 1000000) (.p (.b true)) := fun W => ⟨fun h => by have := same19_w W W false false h; rwa [decide_eq_true rfl] at this⟩
  have dS : decide (S = S) = true := decide_eq_true rfl
  have k0 : okB [0] := by intro c hc; simp at hc; omega
  clear t1 t2 t3 t4 t5 t6 t7 t8 t9 t10 t11 t12 c0 c1 ka kb fa fb ha hb hg hh
  repeat' (first | refine rnC ?_ | refine rnSB ?_ | refine rnG ?_ | refine rnU ?_ | ((fail_if_success (refine rnKn ?_)); refine rnP ?_ ?_ <;> (intro hq; try (have hq' := hq; simp only [hqs] at hq'))) | refine rkC ?_ | refine rkSB ?_ | refine rkF ?_ | refine rkU ?_ | ((fail_if_success (refine rkKn ?_)); refine rkP ?_ ?_ <;> (intro hq; try (have hq' := hq; simp only [hqs] at hq'))) | refine stp ?_ | refine ifT ?_ | refine ifF ?_ | (refine ifQ ?_ ?_ <;> (try (intro hn))) | (refine ifB ?_ ?_ <;> (intro hq; try (have hq' := hq; simp only [hqs] at hq'))))
  refine aws_says (says_nil (t := 12) (o := 901) (es := 1) (ty := 3) rfl rfl (by decide)) ?_
  refine aws_loopS [8, 12, 13, 32, 33, 34, 35, 36, 37, 38, 39, 40, 41, 42, 43, 44, 45, 46, 47, 48, 49, 50, 51] [901] (fun (x : Nat × Nat × List Int) => [(13, .p (.i x.1)), (12, .o (.osl 901 x.2.1 1 0 x.2.2.length))]) (fun x => [(901, (x.2.1 + 1, some (.buf 3 1 (x.2.2.map fun n => [PVal.i n]))))]) (fun x => x.1 ≤ 16 ∧ x.2.2 = lvTo (fun j => !decide (X.getD j default = [0])) x.1) (fun x => 16 - x.1) (0, 0, []) ⟨Nat.zero_le _, rfl⟩ (by exact knA) (by exact knA) ?_
  rintro ⟨i, g, out⟩ β γ ⟨hi, hout⟩
  dsimp only at hi hout ⊢
  have hol : out.length ≤ 16 := by rw [hout]; exact Nat.le_trans (lvTo_len _ _) hi
  by_cases hil : i < 16
  · have d1 : decide ((i : Int) < 16) = true := decide_eq_true (by omega)
    have q1 := kX (i : Int).toNat
    have d2 : (!decide (X.getD (i : Int).toNat default = X.getD (i : Int).toNat default)) = false := by rw [decide_eq_true rfl]; rfl
    by_cases hp : X.getD i default = [0]
    · have d3 : (!decide (X.getD (i : Int).toNat default = [0])) = false := by rw [Int.toNat_natCast, decide_eq_true hp]; rfl
      have hs : lvTo (fun j => !decide (X.getD j default = [0])) (i + 1) = lvTo (fun j => !decide (X.getD j default = [0])) i := by rw [lvTo, if_neg (by rw [decide_eq_true hp]; simp)]
      repeat' (first | refine rnC ?_ | refine rnSB ?_ | refine rnG ?_ | refine rnU ?_ | ((fail_if_success (refine rnKn ?_)); refine rnP ?_ ?_ <;> (intro hq; try (have hq' := hq; simp only [hqs] at hq'))) | refine rkC ?_ | refine rkSB ?_ | refine rkF ?_ | refine rkU ?_ | ((fail_if_success (refine rkKn ?_)); refine rkP ?_ ?_ <;> (intro hq; try (have hq' := hq; simp only [hqs] at hq'))) | refine stp ?_ | refine aws_draws [] mixed (by kernel_rfl) ?_ | refine ifT ?_ | refine ifF ?_ | (refine ifQ ?_ ?_ <;> (try (intro hn))) | (refine ifB ?_ ?_ <;> (intro hq; try (have hq' := hq; simp only [hqs] at hq'))))
      refine rn_any (gd_n rfl rfl) rfl (lop_nes (a := X.getD (i : Int).toNat default) (b := [0]) (by rfl) (by infer_instance) (by rfl) (by rfl) q1 k0 (by rfl)) ?_
      as_aux_lemma =>
        repeat' (first | refine rnC ?_ | refine rnSB ?_ | refine rnG ?_ | refine rnU ?_ | ((fail_if_success (refine rnKn ?_)); refine rnP ?_ ?_ <;> (intro hq; try (have hq' := hq; simp only [hqs] at hq'))) | refine rkC ?_ | refine rkSB ?_ | refine rkF ?_ | refine rkU ?_ | ((fail_if_success (refine rkKn ?_)); refine rkP ?_ ?_ <;> (intro hq; try (have hq' := hq; simp only [hqs] at hq'))) | refine stp ?_ | refine aws_draws [] mixed (by kernel_rfl) ?_ | refine ifT ?_ | refine ifF ?_ | (refine ifQ ?_ ?_ <;> (try (intro hn))) | (refine ifB ?_ ?_ <;> (intro hq; try (have hq' := hq; simp only [hqs] at hq'))))
        exact ⟨(i + 1, g, out), _, by dsimp only; omega, ⟨by dsimp only; omega, by dsimp only; rw [hs, hout]⟩, .refl, by exact frA⟩
    · have d3 : (!decide (X.getD (i : Int).toNat default = [0])) = true := by rw [Int.toNat_natCast, decide_eq_false hp]; rfl
      have hs : lvTo (fun j => !decide (X.getD j default = [0])) (i + 1) = lvTo (fun j => !decide (X.getD j default = [0])) i ++ [(i : Int)] := by rw [lvTo, if_pos (by rw [decide_eq_false hp]; rfl)]
      repeat' (first | refine rnC ?_ | refine rnSB ?_ | refine rnG ?_ | refine rnU ?_ | ((fail_if_success (refine rnKn ?_)); refine rnP ?_ ?_ <;> (intro hq; try (have hq' := hq; simp only [hqs] at hq'))) | refine rkC ?_ | refine rkSB ?_ | refine rkF ?_ | refine rkU ?_ | ((fail_if_success (refine rkKn ?_)); refine rkP ?_ ?_ <;> (intro hq; try (have hq' := hq; simp only [hqs] at hq'))) | refine stp ?_ | refine aws_draws [] mixed (by kernel_rfl) ?_ | refine ifT ?_ | refine ifF ?_ | (refine ifQ ?_ ?_ <;> (try (intro hn))) | (refine ifB ?_ ?_ <;> (intro hq; try (have hq' := hq; simp only [hqs] at hq'))))
      refine rn_any (gd_n rfl rfl) rfl (lop_nes (a := X.getD (i : Int).toNat default) (b := [0]) (by rfl) (by infer_instance) (by rfl) (by rfl) q1 k0 (by rfl)) ?_
      as_aux_lemma =>
        repeat' (first | refine rnC ?_ | refine rnSB ?_ | refine rnG ?_ | refine rnU ?_ | ((fail_if_success (refine rnKn ?_)); refine rnP ?_ ?_ <;> (intro hq; try (have hq' := hq; simp only [hqs] at hq'))) | refine rkC ?_ | refine rkSB ?_ | refine rkF ?_ | refine rkU ?_ | ((fail_if_success (refine rkKn ?_)); refine rkP ?_ ?_ <;> (intro hq; try (have hq' := hq; simp only [hqs] at hq'))) | refine stp ?_ | refine aws_draws [] mixed (by kernel_rfl) ?_ | refine ifT ?_ | refine ifF ?_ | (refine ifQ ?_ ?_ <;> (try (intro hn))) | (refine ifB ?_ ?_ <;> (intro hq; try (have hq' := hq; simp only [hqs] at hq'))))
        exact ⟨(i + 1, g + 1, out ++ [(i : Int)]), _, by dsimp only; omega, ⟨by dsimp only; omega, by dsimp only; rw [hs, hout]⟩, .refl, by exact frA⟩
  · have d1 : decide ((i : Int) < 16) = false := decide_eq_false (by omega)
    obtain rfl : i = 16 := by omega
    rw [← hV] at hout
    subst hout
    clear hV
    refine aws_says (says_frz (t := 12) (o := 901) rfl rfl rfl (by rw [List.length_map])) ?_
    as_aux_lemma =>
      repeat' (first | refine rnC ?_ | refine rnSB ?_ | refine rnG ?_ | refine rnU ?_ | ((fail_if_success (refine rnKn ?_)); refine rnP ?_ ?_ <;> (intro hq; try (have hq' := hq; simp only [hqs] at hq'))) | refine rkC ?_ | refine rkSB ?_ | refine rkF ?_ | refine rkU ?_ | ((fail_if_success (refine rkKn ?_)); refine rkP ?_ ?_ <;> (intro hq; try (have hq' := hq; simp only [hqs] at hq'))) | refine stp ?_ | refine aws_draws [] mixed (by kernel_rfl) ?_ | refine ifT ?_ | refine ifF ?_ | (refine ifQ ?_ ?_ <;> (try (intro hn))) | (refine ifB ?_ ?_ <;> (intro hq; try (have hq' := hq; simp only [hqs] at hq'))))
      exact rt1 rfl rfl finS_p rfl
end Go.Proofs.YtlaeldgebecppaaGreat.Wi
