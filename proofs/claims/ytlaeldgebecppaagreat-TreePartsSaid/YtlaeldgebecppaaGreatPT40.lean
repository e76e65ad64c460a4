/- the reference's buckets: those of a part and a leaf, and their texts; a list as the reference's -/
import Derived.Test.YtlaeldgebecppaaGreatPT39
import Derived.Test.YtlaeldgebecppaaGreatPT34
import Derived.Test.YtlaeldgebecppaaGreatPT38
namespace Go.Proofs.YtlaeldgebecppaaGreat.Wi
open Go Go.RowKit Go.Aw Go.Aw.Sha Go.Aw.Cart Go.Proofs.YtlaeldgebecppaaGreat.Ca Go.Proofs.YtlaeldgebecppaaGreat.Rg Go.Proofs.YtlaeldgebecppaaGreat.Sh
set_option linter.unusedVariables false
set_option linter.unusedSimpArgs false
set_option maxRecDepth 8000
set_option maxHeartbeats 4000000
open M1
theorem kdW_of' {l : List Kd} (hin : ∀ k ∈ l, KdI k) (ho : KOk l) : ∀ k ∈ l, KdW k := fun k h => by
  have hr := ho.cart k h
  exact ⟨(hin k h).key, ho.key k h, (hin k h).vec, (ok_iff.1 hr).few, ok_ents hr (hin k h).vec⟩
def atP (p part leaf : Int) : Bool := decide (0 ≤ p) && (decide (p / 16 = part) && decide (p % 16 = leaf))
def atF (r : Bool) (l : List Kd) (part leaf : Int) : List Kd := l.filter fun e => atP (plE r e) part leaf
theorem atF_step {r : Bool} {l : List Kd} {part leaf : Int} {i : Nat} (h : i < l.length) : atF r (l.take (i + 1)) part leaf = atF r (l.take i) part leaf ++ (if atP (plE r (l.getD i default)) part leaf = true then [l.getD i default] else []) := by
  unfold atF
  rw [takeK_get h, List.filter_append]
  congr 1
  by_cases q : atP (plE r (l.getD i default)) part leaf = true
  · rw [if_pos q, List.filter_cons_of_pos (p := fun e => atP (plE r e) part leaf) q]; rfl
  · rw [if_neg q, List.filter_cons_of_neg (p := fun e => atP (plE r e) part leaf) q]; rfl
theorem plF_get {l : List Kd} {i : Nat} (h : i < l.length) : (plF l).getD i default = plE (keysF l) (l.getD i default) := by
  unfold plF
  rw [List.getD_eq_getElem?_getD, List.getElem?_map, List.getElem?_eq_getElem h, List.getD_eq_getElem?_getD, List.getElem?_eq_getElem h]; rfl
theorem plE_le (r : Bool) (e : Kd) : plE r e ≤ 127 := by
  unfold plE
  have := getD_ok (sum_okB e.1) 0
  split <;> omega
theorem at_w (l : List Kd) (ex : Bool) (part leaf : Int) (h : LIn l) : PCall Tryz.prog 59 [.p (.sl 10 (l.map kR) ex), .p (.sl 1 ((plF l).map fun n => [PVal.i n]) false), .p (.i part), .p (.i leaf)] (.p (.sl 10 ((atF (keysF l) l part leaf).map kR) false)) := by
  refine pcall_of Tryz.func59 rfl (fun w0 F S0 M0 => ?_)
  have hl := h.len
  have hpl : (plF l).length = l.length := by unfold plF; rw [List.length_map]
  have hpg : ∀ i, i < l.length → (plF l).getD i default = plE (keysF l) (l.getD i default) := fun i => plF_get
  generalize plF l = P at hpl hpg ⊢
  generalize keysF l = r at hpg ⊢
  obtain ⟨A, hA⟩ : ∃ A, A = atF r l part leaf := ⟨_, rfl⟩
  rw [← hA]
  repeat' (first | refine rnC ?_ | refine rnSB ?_ | refine rnG ?_ | refine rnU ?_ | ((fail_if_success (refine rnKn ?_)); refine rnP ?_ ?_ <;> (intro hq; try (have hq' := hq; simp only [hqs] at hq'))) | refine rkC ?_ | refine rkSB ?_ | refine rkF ?_ | refine rkU ?_ | ((fail_if_success (refine rkKn ?_)); refine rkP ?_ ?_ <;> (intro hq; try (have hq' := hq; simp only [hqs] at hq'))) | refine stp ?_ | refine ifT ?_ | refine ifF ?_ | (refine ifQ ?_ ?_ <;> (try (intro hn))) | (refine ifB ?_ ?_ <;> (intro hq; try (have hq' := hq; simp only [hqs] at hq'))))
  refine aws_says (says_nil (t := 9) (o := 901) (es := 10) (ty := 114) rfl rfl (by decide)) ?_
  refine aws_loopS [9, 10, 11, 12, 13, 14, 15, 16, 17, 18, 19, 20, 21, 22, 23, 24, 25, 26, 27, 28, 29, 30, 31, 32, 33, 34, 35, 36, 37, 38, 39, 40, 41, 42, 43, 44, 45, 46] [901] (fun (x : Nat × Nat × List Kd) => [(10, .p (.i x.1)), (9, .o (.osl 901 x.2.1 10 0 x.2.2.length))]) (fun x => [(901, (x.2.1 + 1, some (.buf 114 10 (x.2.2.map kR))))]) (fun x => x.1 ≤ l.length ∧ x.2.2 = atF r (l.take x.1) part leaf) (fun x => l.length - x.1) (0, 0, []) ⟨Nat.zero_le _, rfl⟩ (by exact knA) (by exact knA) ?_
  rintro ⟨i, g, out⟩ β γ ⟨hi, ho⟩
  dsimp only at hi ho ⊢
  have hol : out.length ≤ 100000 := by rw [ho]; exact Nat.le_trans (List.length_filter_le _ _) (by rw [List.length_take]; omega)
  by_cases hil : i < l.length
  · have d1 : decide ((i : Int) < (l.length : Int)) = true := decide_eq_true (by omega)
    have ei : (i : Int).toNat = i := Int.toNat_natCast i
    have hs := atF_step (r := r) (part := part) (leaf := leaf) hil
    rw [← hpg i hil, ← ho, show l.getD i default = l.getD (i : Int).toNat default by rw [ei], show P.getD i default = P.getD (i : Int).toNat default by rw [ei]] at hs
    have hiP : i < P.length := by omega
    have hp9 : P.getD (i : Int).toNat default ≤ 127 := by rw [ei, hpg i hil]; exact plE_le _ _
    have hiP' : (i : Int) < (P.length : Int) := by omega
    unfold atP at hs
    obtain ⟨p, hp⟩ : ∃ p, p = P.getD (i : Int).toNat default := ⟨_, rfl⟩
    by_cases q0 : 0 ≤ P.getD (i : Int).toNat default
    · have d2 : decide (0 ≤ P.getD (i : Int).toNat default) = true := decide_eq_true q0
      rw [d2, Bool.true_and] at hs
      by_cases q1 : P.getD (i : Int).toNat default / 16 = part
      · have d3 : decide (P.getD (i : Int).toNat default / 16 = part) = true := decide_eq_true q1
        rw [d3, Bool.true_and] at hs
        by_cases q2 : P.getD (i : Int).toNat default % 16 = leaf
        · have d4 : decide (P.getD (i : Int).toNat default % 16 = leaf) = true := decide_eq_true q2
          rw [if_pos d4] at hs
          clear hA hpg ho h hp
          as_aux_lemma =>
            repeat' (first | refine rnC ?_ | refine rnSB ?_ | refine rnG ?_ | refine rnU ?_ | ((fail_if_success (refine rnKn ?_)); refine rnP ?_ ?_ <;> (intro hq; try (have hq' := hq; simp only [hqs] at hq'))) | refine rkC ?_ | refine rkSB ?_ | refine rkF ?_ | refine rkU ?_ | ((fail_if_success (refine rkKn ?_)); refine rkP ?_ ?_ <;> (intro hq; try (have hq' := hq; simp only [hqs] at hq'))) | refine stp ?_ | refine ifT ?_ | refine ifF ?_ | (refine ifQ ?_ ?_ <;> (try (intro hn))) | (refine ifB ?_ ?_ <;> (intro hq; try (have hq' := hq; simp only [hqs] at hq'))))
            exact ⟨(i + 1, g + 1, out ++ [l.getD (i : Int).toNat default]), _, by dsimp only; omega, ⟨by dsimp only; omega, hs.symm⟩, .refl, by exact frA⟩
        · have d4 : decide (P.getD (i : Int).toNat default % 16 = leaf) = false := decide_eq_false q2
          rw [if_neg (by rw [d4]; simp), List.append_nil] at hs
          clear hA hpg ho h hp
          as_aux_lemma =>
            repeat' (first | refine rnC ?_ | refine rnSB ?_ | refine rnG ?_ | refine rnU ?_ | ((fail_if_success (refine rnKn ?_)); refine rnP ?_ ?_ <;> (intro hq; try (have hq' := hq; simp only [hqs] at hq'))) | refine rkC ?_ | refine rkSB ?_ | refine rkF ?_ | refine rkU ?_ | ((fail_if_success (refine rkKn ?_)); refine rkP ?_ ?_ <;> (intro hq; try (have hq' := hq; simp only [hqs] at hq'))) | refine stp ?_ | refine ifT ?_ | refine ifF ?_ | (refine ifQ ?_ ?_ <;> (try (intro hn))) | (refine ifB ?_ ?_ <;> (intro hq; try (have hq' := hq; simp only [hqs] at hq'))))
            exact ⟨(i + 1, g, out), _, by dsimp only; omega, ⟨by dsimp only; omega, hs.symm⟩, .refl, by exact frA⟩
      · have d3 : decide (P.getD (i : Int).toNat default / 16 = part) = false := decide_eq_false q1
        rw [d3, Bool.false_and, if_neg (by simp), List.append_nil] at hs
        clear hA hpg ho h hp
        as_aux_lemma =>
          repeat' (first | refine rnC ?_ | refine rnSB ?_ | refine rnG ?_ | refine rnU ?_ | ((fail_if_success (refine rnKn ?_)); refine rnP ?_ ?_ <;> (intro hq; try (have hq' := hq; simp only [hqs] at hq'))) | refine rkC ?_ | refine rkSB ?_ | refine rkF ?_ | refine rkU ?_ | ((fail_if_success (refine rkKn ?_)); refine rkP ?_ ?_ <;> (intro hq; try (have hq' := hq; simp only [hqs] at hq'))) | refine stp ?_ | refine ifT ?_ | refine ifF ?_ | (refine ifQ ?_ ?_ <;> (try (intro hn))) | (refine ifB ?_ ?_ <;> (intro hq; try (have hq' := hq; simp only [hqs] at hq'))))
          exact ⟨(i + 1, g, out), _, by dsimp only; omega, ⟨by dsimp only; omega, hs.symm⟩, .refl, by exact frA⟩
    · have d2 : decide (0 ≤ P.getD (i : Int).toNat default) = false := decide_eq_false q0
      rw [d2, Bool.false_and, if_neg (by simp), List.append_nil] at hs
      clear hA hpg ho h hp
      as_aux_lemma =>
        repeat' (first | refine rnC ?_ | refine rnSB ?_ | refine rnG ?_ | refine rnU ?_ | ((fail_if_success (refine rnKn ?_)); refine rnP ?_ ?_ <;> (intro hq; try (have hq' := hq; simp only [hqs] at hq'))) | refine rkC ?_ | refine rkSB ?_ | refine rkF ?_ | refine rkU ?_ | ((fail_if_success (refine rkKn ?_)); refine rkP ?_ ?_ <;> (intro hq; try (have hq' := hq; simp only [hqs] at hq'))) | refine stp ?_ | refine ifT ?_ | refine ifF ?_ | (refine ifQ ?_ ?_ <;> (try (intro hn))) | (refine ifB ?_ ?_ <;> (intro hq; try (have hq' := hq; simp only [hqs] at hq'))))
        exact ⟨(i + 1, g, out), _, by dsimp only; omega, ⟨by dsimp only; omega, hs.symm⟩, .refl, by exact frA⟩
  · have d1 : decide ((i : Int) < (l.length : Int)) = false := decide_eq_false (by omega)
    obtain rfl : i = l.length := by omega
    rw [List.take_length, ← hA] at ho
    rw [← ho]
    clear ho hA hpg
    as_aux_lemma =>
      repeat' (first | refine rnC ?_ | refine rnSB ?_ | refine rnG ?_ | refine rnU ?_ | ((fail_if_success (refine rnKn ?_)); refine rnP ?_ ?_ <;> (intro hq; try (have hq' := hq; simp only [hqs] at hq'))) | refine rkC ?_ | refine rkSB ?_ | refine rkF ?_ | refine rkU ?_ | ((fail_if_success (refine rkKn ?_)); refine rkP ?_ ?_ <;> (intro hq; try (have hq' := hq; simp only [hqs] at hq'))) | refine stp ?_ | refine ifT ?_ | refine ifF ?_ | (refine ifQ ?_ ?_ <;> (try (intro hn))) | (refine ifB ?_ ?_ <;> (intro hq; try (have hq' := hq; simp only [hqs] at hq'))))
      exact rt1 rfl rfl (.one (finC_map rfl rfl rfl rfl)) rfl
/-- a key's place says its part and its leaf -/
theorem pl_at (k : List Nat) (part leaf : Int) : atP (((sum k).getD 0 default / 2 : Nat) : Int) part leaf = (decide ((partF k : Int) = part) && decide ((leafF k : Int) = leaf)) := by
  have h1 := part_top k
  have h2 := leaf_top k
  have h3 := getD_ok (sum_okB k) 0
  unfold atP
  rw [decide_eq_true (by omega), Bool.true_and]
  congr 1
  · exact decide_eq_decide.2 (by omega)
  · exact decide_eq_decide.2 (by omega)
theorem atF_of (l : List Kd) (part leaf : Int) : atF (keysF l) l part leaf = ofF' l part leaf := by
  unfold ofF' atF bktsF
  have hno : ∀ x : Int, x = -1 → atP x part leaf = false := fun x h => by unfold atP; rw [decide_eq_false (by omega)]; rfl
  by_cases hr : keysF l = true
  · rw [if_pos hr, hr]
    by_cases hl : 0 ≤ leaf ∧ leaf < 16
    · rw [if_pos hl]
      have := bkF_get part (stF l) (j := leaf.toNat) (by omega)
      rw [show (bkF part (stF l)).getD leaf.toNat default = (bkF part (stF l)).getD leaf.toNat [] from rfl, this]
      unfold stF
      rw [List.filter_filter]
      refine List.filter_congr fun e _ => ?_
      unfold plE inB offF
      rw [Bool.true_and]
      cases h1 : emptyF e.2 with
      | true => simp [hno]
      | false =>
        cases h2 : keyR e.1 with
        | false => simp [hno]
        | true =>
          have e3 : decide ((leafF e.1 : Int) = leaf) = decide (leafF e.1 = leaf.toNat) := decide_eq_decide.2 (by omega)
          rw [if_pos (show (!false && true) = true from rfl), pl_at, e3]; simp
    · rw [if_neg hl, List.filter_eq_nil_iff]
      intro e _ q
      unfold plE at q
      split at q
      · rw [pl_at, Bool.and_eq_true, decide_eq_true_iff, decide_eq_true_iff] at q
        have := leaf_lt e.1
        omega
      · rw [hno _ rfl] at q; cases q
  · have hr' : keysF l = false := by simpa using hr
    rw [if_neg hr, hr']
    have : ∀ e, plE false e = -1 := fun e => rfl
    have e1 : (l.filter fun e => atP (plE false e) part leaf) = [] := by
      rw [List.filter_eq_nil_iff]
      intro e _ q
      rw [this, hno _ rfl] at q; cases q
    rw [e1]
    split
    · rw [List.getD_eq_getElem?_getD, List.getElem?_replicate]; split <;> rfl
    · rfl
theorem of_ok {l : List Kd} (h : LIn l) (part leaf : Int) : KOk (ofF' l part leaf) ∧ ∀ k ∈ ofF' l part leaf, KdI k := by
  unfold ofF'
  split
  · exact ⟨bkts_ok l part _, fun k hk => h.kd k (bk_sub k hk)⟩
  · exact ⟨kok_nil, fun k hk => by cases hk⟩
theorem refWr_w {l : List Kd} (h : LIn l) (part leaf : Int) : PCall Tryz.prog 33 [.p (.sl 10 ((ofF' l part leaf).map kR) false)] (.p (.sl 1 ((listB (ofF' l part leaf)).map bR) false)) := by
  obtain ⟨h1, h2⟩ := of_ok h part leaf
  exact refWriteAll_w _ false h1.few (kdW_of' h2 h1)
theorem txs_ofF (l : List Kd) (part : Int) {j : Nat} (hj : j < 16) : listB (ofF' l part (j : Int)) = (txsF l part).getD j default := by
  rw [txs_get l part hj]
  unfold ofF'
  rw [if_pos (by omega), Int.toNat_natCast]; rfl
theorem refTexts_w (l : List Kd) (ex : Bool) (part : Int) (h : LIn l) : PCall Tryz.prog 12 [.p (.sl 10 (l.map kR) ex), .p (.i part)] (.a ((txsF l part).map fun b => .p (.v (.string (strOf b))))) := by
  refine pcall_of Tryz.func12 rfl (fun w0 F S0 M0 => ?_)
  haveI : PC Tryz.prog 58 [.p (.sl 10 (l.map kR) ex)] True (.p (.sl 1 ((plF l).map fun n => [PVal.i n]) false)) := ⟨fun _ => places_w l ex h⟩
  have c1 : ∀ j : Nat, PCall Tryz.prog 59 [.p (.sl 10 (l.map kR) ex), .p (.sl 1 ((plF l).map fun n => [PVal.i n]) false), .p (.i part), .p (.i (j : Int))] (.p (.sl 10 ((ofF' l part (j : Int)).map kR) false)) := fun j => by
    have := at_w l ex part (j : Int) h
    rwa [atF_of] at this
  have c2 := fun j : Nat => refWr_w h part (j : Int)
  have hT := txsF_len l part
  have hg := fun j hj => txs_ofF l part (j := j) hj
  generalize plF l = P at this c1
  obtain ⟨X, hX⟩ : ∃ X, X = txsF l part := ⟨_, rfl⟩
  rw [← hX] at hT hg ⊢
  repeat' (first | refine rnC ?_ | refine rnSB ?_ | refine rnG ?_ | refine rnU ?_ | ((fail_if_success (refine rnKn ?_)); refine rnP ?_ ?_ <;> (intro hq; try (have hq' := hq; simp only [hqs] at hq'))) | refine rkC ?_ | refine rkSB ?_ | refine rkF ?_ | refine rkU ?_ | ((fail_if_success (refine rkKn ?_)); refine rkP ?_ ?_ <;> (intro hq; try (have hq' := hq; simp only [hqs] at hq'))) | refine stp ?_ | refine ifT ?_ | refine ifF ?_ | (refine ifQ ?_ ?_ <;> (try (intro hn))) | (refine ifB ?_ ?_ <;> (intro hq; try (have hq' := hq; simp only [hqs] at hq'))))
  refine aws_loopS [7, 10, 11, 12, 13, 14, 15, 16, 17, 18, 19, 20, 21, 22] [5] (fun (x : Nat × List (List Nat)) => [(7, .p (.i x.1))]) (fun x => [(5, (1, some (.box 25 (x.2.map fun b => .p (.v (.string (strOf b)))))))]) (fun x => x.1 ≤ 16 ∧ x.2 = X.take x.1 ++ List.replicate (16 - x.1) []) (fun x => 16 - x.1) (0, List.replicate 16 []) ⟨Nat.zero_le _, rfl⟩ (by exact knA) (by exact knA) ?_
  rintro ⟨i, Y⟩ β γ ⟨hi, hY⟩
  dsimp only at hi hY ⊢
  have hYl : Y.length = 16 := by rw [hY, List.length_append, List.length_take, List.length_replicate]; omega
  by_cases hil : i < 16
  · have d1 : decide ((i : Int) < 16) = true := decide_eq_true (by omega)
    have hput : Y.set (i : Int).toNat (X.getD i default) = X.take (i + 1) ++ List.replicate (16 - (i + 1)) [] := by
      have h1 : (X.take i).length = i := by rw [List.length_take]; omega
      rw [Int.toNat_natCast, hY, List.set_append_right _ _ (by omega), h1, Nat.sub_self, show 16 - i = (16 - (i + 1)) + 1 by omega, List.replicate_succ, List.set_cons_zero, List.take_succ_eq_append_getElem (by omega), List.append_assoc, getD_at (show i < X.length by omega)]; rfl
    rw [← hg i hil] at hput
    have k1 := c1 i
    have k2 := c2 i
    generalize ofF' l part (i : Int) = B at k1 k2 hput
    haveI : PC Tryz.prog 59 [.p (.sl 10 (l.map kR) ex), .p (.sl 1 (P.map fun n => [PVal.i n]) false), .p (.i part), .p (.i (i : Int))] True (.p (.sl 10 (B.map kR) false)) := ⟨fun _ => k1⟩
    haveI : PC Tryz.prog 33 [.p (.sl 10 (B.map kR) false)] True (.p (.sl 1 ((listB B).map bR) false)) := ⟨fun _ => k2⟩
    clear hg c1 c2 k1 k2 hY hX
    as_aux_lemma =>
      repeat' (first | refine rnC ?_ | refine rnSB ?_ | refine rnG ?_ | refine rnU ?_ | ((fail_if_success (refine rnKn ?_)); refine rnP ?_ ?_ <;> (intro hq; try (have hq' := hq; simp only [hqs] at hq'))) | refine rkC ?_ | refine rkSB ?_ | refine rkF ?_ | refine rkU ?_ | ((fail_if_success (refine rkKn ?_)); refine rkP ?_ ?_ <;> (intro hq; try (have hq' := hq; simp only [hqs] at hq'))) | refine stp ?_ | refine ifT ?_ | refine ifF ?_ | (refine ifQ ?_ ?_ <;> (try (intro hn))) | (refine ifB ?_ ?_ <;> (intro hq; try (have hq' := hq; simp only [hqs] at hq'))))
      exact ⟨(i + 1, Y.set (i : Int).toNat (listB B)), _, by dsimp only; omega, ⟨by dsimp only; omega, hput⟩, .refl, by exact frA⟩
  · have d1 : decide ((i : Int) < 16) = false := decide_eq_false (by omega)
    obtain rfl : i = 16 := by omega
    rw [show (16 : Nat) - 16 = 0 from rfl, List.replicate_zero, List.append_nil, List.take_of_length_le (by omega)] at hY
    rw [← hY]
    clear hg c1 c2
    as_aux_lemma =>
      repeat' (first | refine rnC ?_ | refine rnSB ?_ | refine rnG ?_ | refine rnU ?_ | ((fail_if_success (refine rnKn ?_)); refine rnP ?_ ?_ <;> (intro hq; try (have hq' := hq; simp only [hqs] at hq'))) | refine rkC ?_ | refine rkSB ?_ | refine rkF ?_ | refine rkU ?_ | ((fail_if_success (refine rkKn ?_)); refine rkP ?_ ?_ <;> (intro hq; try (have hq' := hq; simp only [hqs] at hq'))) | refine stp ?_ | refine ifT ?_ | refine ifF ?_ | (refine ifQ ?_ ?_ <;> (try (intro hn))) | (refine ifB ?_ ?_ <;> (intro hq; try (have hq' := hq; simp only [hqs] at hq'))))
      exact rc1 rfl rfl rfl rfl rfl (by rw [List.length_map]; exact hYl) finL_map rfl
end Go.Proofs.YtlaeldgebecppaaGreat.Wi
namespace Go.Proofs.YtlaeldgebecppaaGreat.Wi
open Go Go.RowKit Go.Aw Go.Aw.Cart Go.Proofs.YtlaeldgebecppaaGreat.Ca
set_option linter.unusedVariables false
set_option linter.unusedSimpArgs false
set_option maxRecDepth 8000
set_option maxHeartbeats 4000000
open W9
theorem asK_w (l : List Kd) (ex : Bool) (hl : l.length ≤ 100000) (hin : ∀ k ∈ l, KdI k) (hf : ∀ k ∈ l, k.2.2.length ≤ 1000000) : PCall Tryz.prog 13 [.p (.sl 10 (l.map kR) ex)] (.p (.sl 10 (l.map kR) false)) := by
  refine pcall_of Tryz.func13 rfl (fun w0 F S0 M0 => ?_)
  repeat' (first | refine rnC ?_ | refine rnSB ?_ | refine rnG ?_ | refine rnU ?_ | ((fail_if_success (refine rnKn ?_)); refine rnP ?_ ?_ <;> (intro hq; try (have hq' := hq; simp only [hqs] at hq'))) | refine rkC ?_ | refine rkSB ?_ | refine rkF ?_ | refine rkU ?_ | ((fail_if_success (refine rkKn ?_)); refine rkP ?_ ?_ <;> (intro hq; try (have hq' := hq; simp only [hqs] at hq'))) | refine stp ?_ | refine ifT ?_ | refine ifF ?_ | (refine ifQ ?_ ?_ <;> (try (intro hn))) | (refine ifB ?_ ?_ <;> (intro hq; try (have hq' := hq; simp only [hqs] at hq'))))
  refine aws_says (says_nil (t := 3) (o := 901) (ty := 114) (es := 10) rfl rfl (by decide)) ?_
  refine aws_loopS [3, 4, 5, 6, 7, 8, 9, 10, 11, 12, 13, 14, 15, 16, 17, 18, 19, 20, 21, 22, 23, 24, 25] [901] (fun (x : Nat × List Kd) => [(4, .p (.i x.1)), (3, .o (.osl 901 x.1 10 0 x.2.length))]) (fun x => [(901, (x.1 + 1, some (.buf 114 10 (x.2.map kR))))])
    (fun x => x.1 ≤ l.length ∧ x.2 = l.take x.1) (fun x => l.length - x.1) (0, []) ⟨Nat.zero_le _, rfl⟩ (by exact knA) (by exact knA) ?_
  rintro ⟨i, m⟩ β γ ⟨hi, hm⟩
  dsimp only at hi hm ⊢
  have hml : m.length = i := by rw [hm, List.length_take]; omega
  by_cases hil : i < l.length
  · have hd : decide ((i : Int) < (l.length : Int)) = true := decide_eq_true (by omega)
    have ei : (i : Int).toNat = i := Int.toNat_natCast i
    have hk : l.getD (i : Int).toNat default ∈ l := by rw [ei, getD_at hil]; exact List.getElem_mem _
    have ca := Cr.as_r (l.getD (i : Int).toNat default).2.1 (l.getD (i : Int).toNat default).2.2 false (hf _ hk)
    haveI : PC Tryz.prog 60 [cV (l.getD (i : Int).toNat default).2.1 (l.getD (i : Int).toNat default).2.2 false] True (cV (l.getD (i : Int).toNat default).2.1 (l.getD (i : Int).toNat default).2.2 false) := ⟨fun _ => ca⟩
    have hn : m ++ [l.getD (i : Int).toNat default] = l.take (i + 1) := by rw [hm, take_get' hil, ei]
    clear ca hk hf hin hm
    repeat' (first | refine rnC ?_ | refine rnSB ?_ | refine rnG ?_ | refine rnU ?_ | ((fail_if_success (refine rnKn ?_)); refine rnP ?_ ?_ <;> (intro hq; try (have hq' := hq; simp only [hqs] at hq'))) | refine rkC ?_ | refine rkSB ?_ | refine rkF ?_ | refine rkU ?_ | ((fail_if_success (refine rkKn ?_)); refine rkP ?_ ?_ <;> (intro hq; try (have hq' := hq; simp only [hqs] at hq'))) | refine stp ?_ | refine ifT ?_ | refine ifF ?_ | (refine ifQ ?_ ?_ <;> (try (intro hn))) | (refine ifB ?_ ?_ <;> (intro hq; try (have hq' := hq; simp only [hqs] at hq'))))
    refine aws_draws [(14, 901)] mixed (by kernel_rfl) ?_
    repeat' (first | refine rk_nil ?_ | refine rkC ?_ | refine rkSB ?_ | refine rkF ?_ | refine rkU ?_ | ((fail_if_success (refine rkKn ?_)); refine rkP ?_ ?_ <;> (intro hq; try (have hq' := hq; simp only [hqs] at hq'))))
    as_aux_lemma =>
      repeat' (first | refine rnC ?_ | refine rnSB ?_ | refine rnG ?_ | refine rnU ?_ | ((fail_if_success (refine rnKn ?_)); refine rnP ?_ ?_ <;> (intro hq; try (have hq' := hq; simp only [hqs] at hq'))) | refine rkC ?_ | refine rkSB ?_ | refine rkF ?_ | refine rkU ?_ | ((fail_if_success (refine rkKn ?_)); refine rkP ?_ ?_ <;> (intro hq; try (have hq' := hq; simp only [hqs] at hq'))) | refine stp ?_ | refine ifT ?_ | refine ifF ?_ | (refine ifQ ?_ ?_ <;> (try (intro hn))) | (refine ifB ?_ ?_ <;> (intro hq; try (have hq' := hq; simp only [hqs] at hq'))))
      exact ⟨(i + 1, m ++ [l.getD (i : Int).toNat default]), _, by dsimp only; omega, ⟨by dsimp only; omega, hn⟩, .refl, by exact frA⟩
  · have hd : decide ((i : Int) < (l.length : Int)) = false := decide_eq_false (by omega)
    have hm' : l = m := by rw [hm, List.take_of_length_le (by omega)]
    rw [hm']
    rw [hm'] at hd
    clear hm' hm
    as_aux_lemma =>
      repeat' (first | refine rnC ?_ | refine rnSB ?_ | refine rnG ?_ | refine rnU ?_ | ((fail_if_success (refine rnKn ?_)); refine rnP ?_ ?_ <;> (intro hq; try (have hq' := hq; simp only [hqs] at hq'))) | refine rkC ?_ | refine rkSB ?_ | refine rkF ?_ | refine rkU ?_ | ((fail_if_success (refine rkKn ?_)); refine rkP ?_ ?_ <;> (intro hq; try (have hq' := hq; simp only [hqs] at hq'))) | refine stp ?_ | refine ifT ?_ | refine ifF ?_ | (refine ifQ ?_ ?_ <;> (try (intro hn))) | (refine ifB ?_ ?_ <;> (intro hq; try (have hq' := hq; simp only [hqs] at hq'))))
      exact rt1 rfl rfl (.one (finC_map rfl rfl rfl rfl)) rfl
end Go.Proofs.YtlaeldgebecppaaGreat.Wi
