/- buckets: what the fixed calls of alive of 19 come to; buckets: alive of 19; buckets in plain Lean: when they are the same, and how many stand there; buckets, the law BucketSame -/
import Derived.Test.YtbfjcohocedoaaaS3
import Derived.Test.YtbfjcohocedoaaaS2
namespace Go.Proofs.Ytbfjcohocedoaaa.Wi
open Go Go.RowKit Go.Aw Go.Aw.Cart Go.Proofs.Ytbfjcohocedoaaa.Ca Go.Proofs.Ytbfjcohocedoaaa.Rg
set_option linter.unusedVariables false
set_option linter.unusedSimpArgs false
set_option maxRecDepth 8000
theorem abc_at : partF [97, 98, 99] = 5 ∧ leafF [97, 98, 99] = 13 := by decide +kernel
def kd1 : Kd := ([97, 98, 99], ([1, 0, 0, 0, 0, 0, 0, 0], []))
def kd2 : Kd := ([97, 98, 100], (zeroV, []))
def l19 : List Kd := [kd1, kd2]
theorem l19_ok : KOk l19 where
  few := by decide
  up := .cons (by intro b hb; simp only [List.mem_cons, List.not_mem_nil, or_false] at hb; rw [hb]; decide) (.cons (fun b hb => by cases hb) .nil)
  key := by intro e he; simp only [l19, List.mem_cons, List.not_mem_nil, or_false] at he; rcases he with rfl | rfl <;> decide
  cart := by
    intro e he
    simp only [l19, List.mem_cons, List.not_mem_nil, or_false] at he
    rcases he with rfl | rfl
    · exact rightF_iff.2 ⟨by decide, by decide, by decide⟩
    · exact z10_right
theorem l19_in : LIn l19 where
  len := by decide
  kd := by
    intro e he
    simp only [l19, List.mem_cons, List.not_mem_nil, or_false] at he
    rcases he with rfl | rfl
    · exact ⟨by intro c hc; simp [kd1] at hc; omega, by decide, ⟨rfl, by decide⟩, by decide⟩
    · exact ⟨by intro c hc; simp [kd2] at hc; omega, by decide, ⟨rfl, by decide⟩, by decide⟩
  few := by
    intro e he
    simp only [l19, List.mem_cons, List.not_mem_nil, or_false] at he
    rcases he with rfl | rfl <;> decide
theorem nil_in : LIn [] := ⟨by decide, fun k hk => (by cases hk), fun k hk => (by cases hk)⟩
theorem st19 : stF l19 = [kd1] := by
  unfold stF l19
  rw [List.filter_cons_of_pos (by decide), List.filter_cons_of_neg (by decide), List.filter_nil]
theorem bk19 : bktsF l19 5 = List.replicate 13 [] ++ [kd1] :: List.replicate 2 [] := by
  unfold bktsF
  rw [if_pos (keys_iff.2 l19_ok), st19]
  refine bk_ext (bkF_len _ _) rfl fun j hj => ?_
  rw [bkF_get _ _ hj]
  have e : inB 5 j kd1 = decide (13 = j) := by
    unfold inB
    rw [show partF kd1.1 = 5 from abc_at.1, show leafF kd1.1 = 13 from abc_at.2]; rfl
  rw [List.filter_cons, e, List.filter_nil]
  clear e
  match j, hj with
  | 0, _ => rfl
  | 1, _ => rfl
  | 2, _ => rfl
  | 3, _ => rfl
  | 4, _ => rfl
  | 5, _ => rfl
  | 6, _ => rfl
  | 7, _ => rfl
  | 8, _ => rfl
  | 9, _ => rfl
  | 10, _ => rfl
  | 11, _ => rfl
  | 12, _ => rfl
  | 13, _ => rfl
  | 14, _ => rfl
  | 15, _ => rfl
  | n + 16, h => exact absurd h (by omega)
theorem bkNil : bktsF [] 5 = List.replicate 16 [] := by
  unfold bktsF
  rw [if_pos (keys_iff.2 kok_nil)]; rfl
theorem of19 : ofF' l19 5 13 = [kd1] := by
  unfold ofF'
  rw [if_pos (by decide), bk19]; rfl
theorem lv19 : lvTo (fun j => decide (0 < ((bktsF l19 5).getD j default).length)) 16 = [13] := by rw [bk19]; decide
theorem lvTo_none {p : Nat → Bool} : ∀ k, (∀ j, j < k → p j = false) → lvTo p k = []
  | 0, _ => rfl
  | k + 1, h => by rw [lvTo, if_neg (by rw [h k (Nat.lt_succ_self k)]; simp)]; exact lvTo_none k fun j hj => h j (Nat.lt_succ_of_lt hj)
theorem un_self (l : List Kd) (part : Int) : unlF l l part = [] := lvTo_none 16 fun j _ => by rw [decide_eq_true rfl]; rfl
theorem tx_nil : txsF [] 5 = List.replicate 16 [0] := by unfold txsF; rw [bkNil]; rfl
theorem un19 : unlF l19 [] 5 = [13] := by
  unfold unlF
  rw [tx_nil]
  unfold txsF
  rw [bk19]; decide
theorem tx19 : 9 < (listB (ofF' l19 5 13)).length := by rw [of19]; decide
/-- the list as it is written out -/
abbrev r19 : List (List PVal) := [[.v (.string { data := #[97, 98, 99] }), .k .u64 1, .k .u64 0, .k .u64 0, .k .u64 0, .k .u64 0, .k .u64 0, .k .u64 0, .k .u64 0, .v (.slice none 0 0)], [.v (.string { data := #[97, 98, 100] }), .k .u64 0, .k .u64 0, .k .u64 0, .k .u64 0, .k .u64 0, .k .u64 0, .k .u64 0, .k .u64 0, .v (.slice none 0 0)]]
theorem ent19 : Ent1 (.p (.sl 10 r19 true)) (.p (.sl 10 (l19.map kR) false)) :=
  Ent1.rows (.cons (.cons .refl (.cons .refl (.cons .refl (.cons .refl (.cons .refl (.cons .refl (.cons .refl (.cons .refl (.cons .refl (.cons .nil .nil)))))))))) (.cons (.cons .refl (.cons .refl (.cons .refl (.cons .refl (.cons .refl (.cons .refl (.cons .refl (.cons .refl (.cons .refl (.cons .nil .nil)))))))))) .nil))
theorem ent19n : Ent1 (.p (.v (.slice none 0 0))) (.p (.sl 10 (([] : List Kd).map kR) false)) := Ent1.nil
theorem a_of : PCall Try.prog 15 [.p (.sl 10 r19 true), .p (.i 5), .p (.i 13)] (.p (.sl 10 ([kd1].map kR) false)) := by
  have h := of_w l19 false 5 13 l19_in
  rw [of19] at h
  exact h.ent (.cons ent19 (.cons .refl (.cons .refl .nil)))
theorem a_lv : PCall Try.prog 24 [.p (.sl 10 r19 true), .p (.i 5)] (.p (.sl 1 (([13] : List Int).map fun n => [PVal.i n]) false)) := by
  have h := leaves_w l19 false 5 l19_in
  rw [lv19] at h
  exact h.ent (.cons ent19 (.cons .refl .nil))
theorem a_un : PCall Try.prog 11 [.p (.sl 10 r19 true), .p (.v (.slice none 0 0)), .p (.i 5)] (.p (.sl 1 (([13] : List Int).map fun n => [PVal.i n]) false)) := by
  have h := unlike_w l19 [] false false 5 l19_in nil_in
  rw [un19] at h
  exact h.ent (.cons ent19 (.cons ent19n (.cons .refl .nil)))
theorem a_us : PCall Try.prog 11 [.p (.sl 10 r19 true), .p (.sl 10 r19 true), .p (.i 5)] (.p (.sl 1 (([] : List Int).map fun n => [PVal.i n]) false)) := by
  have h := unlike_w l19 l19 false false 5 l19_in l19_in
  rw [un_self] at h
  exact h.ent (.cons ent19 (.cons ent19 (.cons .refl .nil)))
theorem a_tx : PCall Try.prog 25 [.p (.v (.slice none 0 0)), .p (.i 5)] (.a ((List.replicate 16 [0]).map fun b : List Nat => .p (.sl 1 (b.map bR) false))) := by
  have h := texts_w [] false 5 nil_in
  rw [tx_nil] at h
  exact h.ent (.cons ent19n (.cons .refl .nil))
theorem a_te : ∃ X : List Nat, 9 < X.length ∧ PCall Try.prog 26 [.p (.sl 10 r19 true), .p (.i 5), .p (.i 13)] (.p (.sl 1 (X.map bR) false)) :=
  ⟨_, tx19, (text_w l19 false 5 13 l19_in).ent (.cons ent19 (.cons .refl (.cons .refl .nil)))⟩
end Go.Proofs.Ytbfjcohocedoaaa.Wi
namespace Go.Proofs.Ytbfjcohocedoaaa.Wi
open Go Go.RowKit Go.Aw Go.Aw.Cart Go.Proofs.Ytbfjcohocedoaaa.Ca Go.Proofs.Ytbfjcohocedoaaa.Rg
set_option linter.unusedVariables false
set_option linter.unusedSimpArgs false
set_option maxRecDepth 8000
set_option maxHeartbeats 4000000
open B1
theorem alive19_w : PCall Try.prog 10 [] (.p (.b true)) := by
  refine pcall_of Try.func10 rfl (fun w0 F S0 M0 => ?_)
  obtain ⟨A, hA⟩ : ∃ A : List Kd, A = [kd1] := ⟨_, rfl⟩
  obtain ⟨V, hV⟩ : ∃ V : List Int, V = [13] := ⟨_, rfl⟩
  obtain ⟨U, hU⟩ : ∃ U : List Int, U = [] := ⟨_, rfl⟩
  obtain ⟨T, hT⟩ : ∃ T : List (List Nat), T = List.replicate 16 [0] := ⟨_, rfl⟩
  obtain ⟨X, hX, hte'⟩ := a_te
  have c1 := a_of
  have c2 := a_lv
  have c3 := a_un
  have c4 := a_us
  have c5 := a_tx
  rw [← hA] at c1
  rw [← hV] at c2 c3
  rw [← hU] at c4
  rw [← hT] at c5
  have hof : PC Try.prog 15 [.p (.sl 10 r19 true), .p (.i 5), .p (.i 13)] True (.p (.sl 10 (A.map kR) false)) := ⟨fun _ => c1⟩
  have hlv : PC Try.prog 24 [.p (.sl 10 r19 true), .p (.i 5)] True (.p (.sl 1 (V.map fun n => [PVal.i n]) false)) := ⟨fun _ => c2⟩
  have hun : PC Try.prog 11 [.p (.sl 10 r19 true), .p (.v (.slice none 0 0)), .p (.i 5)] True (.p (.sl 1 (V.map fun n => [PVal.i n]) false)) := ⟨fun _ => c3⟩
  have hus : PC Try.prog 11 [.p (.sl 10 r19 true), .p (.sl 10 r19 true), .p (.i 5)] True (.p (.sl 1 (U.map fun n => [PVal.i n]) false)) := ⟨fun _ => c4⟩
  have htx : PC Try.prog 25 [.p (.v (.slice none 0 0)), .p (.i 5)] True (.a (T.map fun b : List Nat => .p (.sl 1 (b.map bR) false))) := ⟨fun _ => c5⟩
  have hte : PC Try.prog 26 [.p (.sl 10 r19 true), .p (.i 5), .p (.i 13)] True (.p (.sl 1 (X.map bR) false)) := ⟨fun _ => hte'⟩
  have lA : A.length = 1 := by rw [hA]; rfl
  have dA : decide ((A.length : Int) = 1) = true := by rw [hA]; rfl
  have kA : okB (A.getD (Int.toNat 0) default).1 := by rw [hA]; intro c hc; simp [kd1] at hc; omega
  have kA2 : okB [97, 98, 99] := by intro c hc; simp at hc; omega
  have dA2 : decide ((A.getD (Int.toNat 0) default).1 = [97, 98, 99]) = true := decide_eq_true (by rw [hA]; rfl)
  have lV : V.length = 1 := by rw [hV]; rfl
  have dV : decide ((V.length : Int) = 1) = true := by rw [hV]; rfl
  have dV2 : decide (V.getD (Int.toNat 0) default = 13) = true := decide_eq_true (by rw [hV]; rfl)
  have lT : T.length = 16 := by rw [hT]; rfl
  have kT : okB (T.getD (Int.toNat 3) default) := by rw [hT]; intro c hc; simp at hc; omega
  have kT2 : okB [0] := by intro c hc; simp at hc; omega
  have dT : decide (T.getD (Int.toNat 3) default = [0]) = true := decide_eq_true (by rw [hT]; rfl)
  have dU : decide ((U.length : Int) = 0) = true := by rw [hU]; rfl
  have dX : decide (9 < (X.length : Int)) = true := decide_eq_true (by omega)
  clear c1 c2 c3 c4 c5 hA hV hU hT
  repeat' (first | refine rnC ?_ | refine rnSB ?_ | refine rnG ?_ | refine rnU ?_ | ((fail_if_success (refine rnKn ?_)); refine rnP ?_ ?_ <;> (intro hq; try (have hq' := hq; simp only [hqs] at hq'))) | refine rkC ?_ | refine rkSB ?_ | refine rkF ?_ | refine rkU ?_ | ((fail_if_success (refine rkKn ?_)); refine rkP ?_ ?_ <;> (intro hq; try (have hq' := hq; simp only [hqs] at hq'))) | refine stp ?_ | refine ifT ?_ | refine ifF ?_ | (refine ifQ ?_ ?_ <;> (try (intro hn))) | (refine ifB ?_ ?_ <;> (intro hq; try (have hq' := hq; simp only [hqs] at hq'))))
  refine rn_any (by first | exact gd_n rfl rfl | exact gd_t rfl rfl rfl rfl | exact gd_t rfl rfl rfl (by assumption)) rfl (lop_call3 (by rfl) inferInstance (by rfl) (by rfl) (by rfl) (by infer_instance) hof True.intro (by rfl)) ?_
  repeat' (first | refine rnC ?_ | refine rnSB ?_ | refine rnG ?_ | refine rnU ?_ | ((fail_if_success (refine rnKn ?_)); refine rnP ?_ ?_ <;> (intro hq; try (have hq' := hq; simp only [hqs] at hq'))) | refine rkC ?_ | refine rkSB ?_ | refine rkF ?_ | refine rkU ?_ | ((fail_if_success (refine rkKn ?_)); refine rkP ?_ ?_ <;> (intro hq; try (have hq' := hq; simp only [hqs] at hq'))) | refine stp ?_ | refine ifT ?_ | refine ifF ?_ | (refine ifQ ?_ ?_ <;> (try (intro hn))) | (refine ifB ?_ ?_ <;> (intro hq; try (have hq' := hq; simp only [hqs] at hq'))))
  refine rn_any (by first | exact gd_n rfl rfl | exact gd_t rfl rfl rfl rfl | exact gd_t rfl rfl rfl (by assumption)) rfl (lop_call2 (by rfl) inferInstance (by rfl) (by rfl) (by infer_instance) hlv True.intro (by rfl)) ?_
  repeat' (first | refine rnC ?_ | refine rnSB ?_ | refine rnG ?_ | refine rnU ?_ | ((fail_if_success (refine rnKn ?_)); refine rnP ?_ ?_ <;> (intro hq; try (have hq' := hq; simp only [hqs] at hq'))) | refine rkC ?_ | refine rkSB ?_ | refine rkF ?_ | refine rkU ?_ | ((fail_if_success (refine rkKn ?_)); refine rkP ?_ ?_ <;> (intro hq; try (have hq' := hq; simp only [hqs] at hq'))) | refine stp ?_ | refine ifT ?_ | refine ifF ?_ | (refine ifQ ?_ ?_ <;> (try (intro hn))) | (refine ifB ?_ ?_ <;> (intro hq; try (have hq' := hq; simp only [hqs] at hq'))))
  refine rn_any (by first | exact gd_n rfl rfl | exact gd_t rfl rfl rfl rfl | exact gd_t rfl rfl rfl (by assumption)) rfl (lop_call3 (by rfl) inferInstance (by rfl) (by rfl) (by rfl) (by infer_instance) hun True.intro (by rfl)) ?_
  repeat' (first | refine rnC ?_ | refine rnSB ?_ | refine rnG ?_ | refine rnU ?_ | ((fail_if_success (refine rnKn ?_)); refine rnP ?_ ?_ <;> (intro hq; try (have hq' := hq; simp only [hqs] at hq'))) | refine rkC ?_ | refine rkSB ?_ | refine rkF ?_ | refine rkU ?_ | ((fail_if_success (refine rkKn ?_)); refine rkP ?_ ?_ <;> (intro hq; try (have hq' := hq; simp only [hqs] at hq'))) | refine stp ?_ | refine ifT ?_ | refine ifF ?_ | (refine ifQ ?_ ?_ <;> (try (intro hn))) | (refine ifB ?_ ?_ <;> (intro hq; try (have hq' := hq; simp only [hqs] at hq'))))
  refine rn_any (by first | exact gd_n rfl rfl | exact gd_t rfl rfl rfl rfl | exact gd_t rfl rfl rfl (by assumption)) rfl (lop_eqs (a := (A.getD (Int.toNat 0) default).1) (b := [97, 98, 99]) (by rfl) (by infer_instance) (by rfl) (by rfl) kA kA2 (by rfl)) ?_
  repeat' (first | refine rnC ?_ | refine rnSB ?_ | refine rnG ?_ | refine rnU ?_ | ((fail_if_success (refine rnKn ?_)); refine rnP ?_ ?_ <;> (intro hq; try (have hq' := hq; simp only [hqs] at hq'))) | refine rkC ?_ | refine rkSB ?_ | refine rkF ?_ | refine rkU ?_ | ((fail_if_success (refine rkKn ?_)); refine rkP ?_ ?_ <;> (intro hq; try (have hq' := hq; simp only [hqs] at hq'))) | refine stp ?_ | refine ifT ?_ | refine ifF ?_ | (refine ifQ ?_ ?_ <;> (try (intro hn))) | (refine ifB ?_ ?_ <;> (intro hq; try (have hq' := hq; simp only [hqs] at hq'))))
  refine rn_any (by first | exact gd_n rfl rfl | exact gd_t rfl rfl rfl rfl | exact gd_t rfl rfl rfl (by assumption)) rfl (lop_eqs (a := T.getD (Int.toNat 3) default) (b := [0]) (by rfl) (by infer_instance) (by rfl) (by rfl) kT kT2 (by rfl)) ?_
  repeat' (first | refine rnC ?_ | refine rnSB ?_ | refine rnG ?_ | refine rnU ?_ | ((fail_if_success (refine rnKn ?_)); refine rnP ?_ ?_ <;> (intro hq; try (have hq' := hq; simp only [hqs] at hq'))) | refine rkC ?_ | refine rkSB ?_ | refine rkF ?_ | refine rkU ?_ | ((fail_if_success (refine rkKn ?_)); refine rkP ?_ ?_ <;> (intro hq; try (have hq' := hq; simp only [hqs] at hq'))) | refine stp ?_ | refine ifT ?_ | refine ifF ?_ | (refine ifQ ?_ ?_ <;> (try (intro hn))) | (refine ifB ?_ ?_ <;> (intro hq; try (have hq' := hq; simp only [hqs] at hq'))))
  refine rn_any (by first | exact gd_n rfl rfl | exact gd_t rfl rfl rfl rfl | exact gd_t rfl rfl rfl (by assumption)) rfl (lop_call3 (by rfl) inferInstance (by rfl) (by rfl) (by rfl) (by infer_instance) hus True.intro (by rfl)) ?_
  repeat' (first | refine rnC ?_ | refine rnSB ?_ | refine rnG ?_ | refine rnU ?_ | ((fail_if_success (refine rnKn ?_)); refine rnP ?_ ?_ <;> (intro hq; try (have hq' := hq; simp only [hqs] at hq'))) | refine rkC ?_ | refine rkSB ?_ | refine rkF ?_ | refine rkU ?_ | ((fail_if_success (refine rkKn ?_)); refine rkP ?_ ?_ <;> (intro hq; try (have hq' := hq; simp only [hqs] at hq'))) | refine stp ?_ | refine ifT ?_ | refine ifF ?_ | (refine ifQ ?_ ?_ <;> (try (intro hn))) | (refine ifB ?_ ?_ <;> (intro hq; try (have hq' := hq; simp only [hqs] at hq'))))
  refine rn_any (by first | exact gd_n rfl rfl | exact gd_t rfl rfl rfl rfl | exact gd_t rfl rfl rfl (by assumption)) rfl (lop_call3 (by rfl) inferInstance (by rfl) (by rfl) (by rfl) (by infer_instance) hte True.intro (by rfl)) ?_
  as_aux_lemma =>
    repeat' (first | refine rnC ?_ | refine rnSB ?_ | refine rnG ?_ | refine rnU ?_ | ((fail_if_success (refine rnKn ?_)); refine rnP ?_ ?_ <;> (intro hq; try (have hq' := hq; simp only [hqs] at hq'))) | refine rkC ?_ | refine rkSB ?_ | refine rkF ?_ | refine rkU ?_ | ((fail_if_success (refine rkKn ?_)); refine rkP ?_ ?_ <;> (intro hq; try (have hq' := hq; simp only [hqs] at hq'))) | refine stp ?_ | refine ifT ?_ | refine ifF ?_ | (refine ifQ ?_ ?_ <;> (try (intro hn))) | (refine ifB ?_ ?_ <;> (intro hq; try (have hq' := hq; simp only [hqs] at hq'))))
    exact rt1 rfl rfl finS_p (rb dX.symm)
instance alive19_i : PC Try.prog 10 [] True (.p (.b true)) := ⟨fun _ => alive19_w⟩
end Go.Proofs.Ytbfjcohocedoaaa.Wi
namespace Go.Proofs.Ytbfjcohocedoaaa.Wi
open Go Go.RowKit Go.Aw Go.Aw.Cart Go.Proofs.Ytbfjcohocedoaaa.Ca Go.Proofs.Ytbfjcohocedoaaa.Rg
set_option linter.unusedVariables false
set_option linter.unusedSimpArgs false
abbrev upK (l : List Kd) : Prop := l.Pairwise fun a b => bLt a.1 b.1 = true
theorem empty_iff {c : Crt} : emptyF c = true ↔ c = (zeroV, []) := by
  obtain ⟨v, l⟩ := c
  unfold emptyF sameF
  rw [Bool.and_eq_true, decide_eq_true_iff, decide_eq_true_iff, Prod.mk.injEq]
theorem listB_inj {l m : List Kd} (h : KOk l) (k : KOk m) (hv : ∀ e ∈ l, vecOk e.2.1) (kv : ∀ e ∈ m, vecOk e.2.1) (e : listB l = listB m) : l = m := by
  have h1 := readL_back h hv
  rw [e, readL_back k kv] at h1
  exact (Prod.mk.inj h1).1.symm
theorem mem_find : ∀ {l : List Kd}, upK l → ∀ {e : Kd}, e ∈ l → findK l e.1 = (e.2, true)
  | [], _, e, he => by cases he
  | a :: l, hu, e, he => by
    rw [findK]
    rcases List.mem_cons.1 he with q | q
    · rw [q, if_pos rfl]
    · have hlt := (List.pairwise_cons.1 hu).1 e q
      rw [if_neg (fun x => by rw [x, bLt_irr] at hlt; cases hlt)]
      exact mem_find (List.pairwise_cons.1 hu).2 q
theorem find_mem : ∀ {l : List Kd} {k : List Nat} {c : Crt}, findK l k = (c, true) → (k, c) ∈ l
  | [], k, c, h => by cases h
  | a :: l, k, c, h => by
    rw [findK] at h
    by_cases q : a.1 = k
    · rw [if_pos q] at h
      obtain rfl := (Prod.mk.inj h).1
      subst q
      exact List.mem_cons_self
    · rw [if_neg q] at h
      exact List.mem_cons_of_mem _ (find_mem h)
theorem find_off : ∀ {l : List Kd} {k : List Nat} {c : Crt}, findK l k = (c, false) → c = (zeroV, [])
  | [], k, c, h => (Prod.mk.inj h).1.symm
  | a :: l, k, c, h => by
    rw [findK] at h
    by_cases q : a.1 = k
    · rw [if_pos q] at h; cases h
    · rw [if_neg q] at h; exact find_off h
theorem mem_iff {l : List Kd} (hu : upK l) {e : Kd} : e ∈ l ↔ findK l e.1 = (e.2, true) := ⟨mem_find hu, fun h => find_mem h⟩
theorem up_ext : ∀ {l m : List Kd}, upK l → upK m → (∀ e, e ∈ l ↔ e ∈ m) → l = m
  | [], [], _, _, _ => rfl
  | [], b :: m, _, _, h => by cases (h b).2 List.mem_cons_self
  | a :: l, [], _, _, h => by cases (h a).1 List.mem_cons_self
  | a :: l, b :: m, hl, hm, h => by
    have ll := List.pairwise_cons.1 hl
    have mm := List.pairwise_cons.1 hm
    have hab : a = b := by
      rcases List.mem_cons.1 ((h a).1 List.mem_cons_self) with q | q
      · exact q
      · rcases List.mem_cons.1 ((h b).2 List.mem_cons_self) with p | p
        · exact p.symm
        · have h1 := mm.1 a q
          rw [bLt_asym (ll.1 b p)] at h1; cases h1
    subst hab
    rw [up_ext ll.2 mm.2 fun e => ⟨fun he => ?_, fun he => ?_⟩]
    · rcases List.mem_cons.1 ((h e).1 (List.mem_cons_of_mem _ he)) with q | q
      · have := ll.1 e he; rw [q, bLt_irr] at this; cases this
      · exact q
    · rcases List.mem_cons.1 ((h e).2 (List.mem_cons_of_mem _ he)) with q | q
      · have := mm.1 e he; rw [q, bLt_irr] at this; cases this
      · exact q
theorem mem_bkt {l : List Kd} (hr : keysF l = true) {part : Int} {j : Nat} (hj : j < 16) {e : Kd} : e ∈ (bktsF l part).getD j [] ↔ e ∈ l ∧ emptyF e.2 = false ∧ keyR e.1 = true ∧ (partF e.1 : Int) = part ∧ leafF e.1 = j := by
  unfold bktsF
  rw [if_pos hr, bkF_get _ _ hj, List.mem_filter]
  unfold stF offF inB
  rw [List.mem_filter]
  constructor
  · rintro ⟨⟨h1, h2⟩, h3⟩
    simp only [Bool.not_or, Bool.not_not, Bool.and_eq_true, Bool.not_eq_true', decide_eq_true_iff] at h2 h3
    exact ⟨h1, h2.1, h2.2, h3.1, h3.2⟩
  · rintro ⟨h1, h2, h3, h4, h5⟩
    refine ⟨⟨h1, ?_⟩, ?_⟩
    · rw [h2, h3]; rfl
    · rw [decide_eq_true h4, decide_eq_true h5]; rfl
theorem up_bkt (l : List Kd) (part : Int) (j : Nat) : upK ((bktsF l part).getD j []) := by
  unfold bktsF
  by_cases hr : keysF l = true
  · rw [if_pos hr]
    by_cases hj : j < 16
    · rw [bkF_get _ _ hj]
      exact ((keys_iff.1 hr).up.sublist List.filter_sublist).sublist List.filter_sublist
    · rw [List.getD_eq_getElem?_getD, List.getElem?_eq_none (by rw [bkF_len]; omega)]; exact .nil
  · rw [if_neg hr, List.getD_eq_getElem?_getD, List.getElem?_replicate]
    split <;> exact .nil
/-- a key's cart is that of its bucket -/
theorem find_bkt {l : List Kd} (hr : keysF l = true) {k : List Nat} (hk : keyR k = true) : (findK l k).1 = (findK ((bktsF l (partF k : Int)).getD (leafF k) []) k).1 := by
  have hu := (keys_iff.1 hr).up
  have hb := up_bkt l (partF k : Int) (leafF k)
  obtain ⟨c, b, hf⟩ : ∃ c b, findK l k = (c, b) := ⟨_, _, rfl⟩
  obtain ⟨c', b', hf'⟩ : ∃ c b, findK ((bktsF l (partF k : Int)).getD (leafF k) []) k = (c, b) := ⟨_, _, rfl⟩
  rw [hf, hf']
  show c = c'
  cases b' with
  | true =>
    have h1 := (mem_bkt hr (leaf_lt k)).1 (find_mem hf')
    have h2 := mem_find hu h1.1
    dsimp only at h2
    rw [hf] at h2
    exact (Prod.mk.inj h2).1
  | false =>
    rw [find_off hf']
    cases b with
    | false => exact find_off hf
    | true =>
      have h1 := find_mem hf
      cases he : emptyF c with
      | true => exact empty_iff.1 he
      | false =>
        have h2 := mem_find hb ((mem_bkt hr (leaf_lt k)).2 ⟨h1, he, hk, rfl, rfl⟩)
        dsimp only at h2
        rw [hf'] at h2
        cases h2
/-- buckets are the same if what is known of their keys is -/
theorem bkt_sub {a b : List Kd} (ha : keysF a = true) (hb : keysF b = true) {part : Int} {j : Nat} (hj : j < 16) (h : ∀ e ∈ a, keyR e.1 = true → (findK a e.1).1 = (findK b e.1).1) {e : Kd} (he : e ∈ (bktsF a part).getD j []) : e ∈ (bktsF b part).getD j [] := by
  obtain ⟨h1, h2, h3, h4, h5⟩ := (mem_bkt ha hj).1 he
  have q := h e h1 h3
  rw [mem_find (keys_iff.1 ha).up h1] at q
  obtain ⟨c, f, hf⟩ : ∃ c f, findK b e.1 = (c, f) := ⟨_, _, rfl⟩
  rw [hf] at q
  dsimp only at q
  cases f with
  | false =>
    rw [find_off hf] at q
    rw [empty_iff.2 q] at h2; cases h2
  | true =>
    rw [← q] at hf
    exact (mem_bkt hb hj).2 ⟨find_mem hf, h2, h3, h4, h5⟩
theorem bkt_same {a b : List Kd} (ha : keysF a = true) (hb : keysF b = true) {part : Int} {j : Nat} (hj : j < 16) (h : ∀ e ∈ a ++ b, keyR e.1 = true → (findK a e.1).1 = (findK b e.1).1) : (bktsF a part).getD j [] = (bktsF b part).getD j [] :=
  up_ext (up_bkt _ _ _) (up_bkt _ _ _) fun e => ⟨bkt_sub ha hb hj fun x hx => h x (List.mem_append_left _ hx), bkt_sub hb ha hj fun x hx k => (h x (List.mem_append_right _ hx) k).symm⟩
/-- P19.2 -/
theorem bkt_law {a b : List Kd} (ha : keysF a = true) (hb : keysF b = true) : (∀ part : Nat, part < 8 → ∀ j, j < 16 → (bktsF a part).getD j [] = (bktsF b part).getD j []) ↔ ∀ e ∈ a ++ b, keyR e.1 = true → (findK a e.1).1 = (findK b e.1).1 := by
  refine ⟨fun h e he hk => ?_, fun h part hp j hj => bkt_same ha hb hj h⟩
  rw [find_bkt ha hk, find_bkt hb hk, h _ (part_lt e.1) _ (leaf_lt e.1)]
/-! another cart of one key -/
theorem bkt_other {l m : List Kd} (hl : keysF l = true) (hm : keysF m = true) {k : List Nat} (ho : ∀ o, o ≠ k → findK m o = findK l o) {part : Int} {j : Nat} (hj : j < 16) (h : ¬ ((partF k : Int) = part ∧ leafF k = j)) : (bktsF l part).getD j [] = (bktsF m part).getD j [] := by
  refine up_ext (up_bkt _ _ _) (up_bkt _ _ _) fun e => ?_
  have key : (partF e.1 : Int) = part ∧ leafF e.1 = j → (e ∈ l ↔ e ∈ m) := fun q => by
    have hne : e.1 ≠ k := fun x => h (by rw [← x]; exact q)
    rw [mem_iff (keys_iff.1 hl).up, mem_iff (keys_iff.1 hm).up, ho _ hne]
  rw [mem_bkt hl hj, mem_bkt hm hj]
  constructor
  · rintro ⟨h1, h2, h3, h4, h5⟩; exact ⟨(key ⟨h4, h5⟩).1 h1, h2, h3, h4, h5⟩
  · rintro ⟨h1, h2, h3, h4, h5⟩; exact ⟨(key ⟨h4, h5⟩).2 h1, h2, h3, h4, h5⟩
theorem bkt_own {l m : List Kd} (hl : keysF l = true) (hm : keysF m = true) {k : List Nat} (hk : keyR k = true) (ho : ∀ o, o ≠ k → findK m o = findK l o) : (bktsF l (partF k : Int)).getD (leafF k) [] = (bktsF m (partF k : Int)).getD (leafF k) [] ↔ (findK l k).1 = (findK m k).1 := by
  refine ⟨fun h => by rw [find_bkt hl hk, find_bkt hm hk, h], fun h => ?_⟩
  refine bkt_same hl hm (leaf_lt k) fun e _ _ => ?_
  by_cases q : e.1 = k
  · rw [q]; exact h
  · rw [ho _ q]
/-! how many stand there -/
def cntP (S : List Kd) (part : Nat) : Nat := (S.filter fun e => decide (partF e.1 < part)).length
def cntL (S : List Kd) (part leaf : Nat) : Nat := (S.filter fun e => decide (partF e.1 = part ∧ leafF e.1 < leaf)).length
theorem cntP_zero (S : List Kd) : cntP S 0 = 0 := by
  unfold cntP
  rw [List.filter_eq_nil_iff.2 fun e _ => by simp]; rfl
theorem cntL_zero (S : List Kd) (part : Nat) : cntL S part 0 = 0 := by
  unfold cntL
  rw [List.filter_eq_nil_iff.2 fun e _ => by simp]; rfl
theorem cnt_add {p q r : Kd → Bool} (h : ∀ e, r e = (p e || q e)) (hd : ∀ e, ¬ (p e = true ∧ q e = true)) : ∀ S : List Kd, (S.filter r).length = (S.filter p).length + (S.filter q).length
  | [] => rfl
  | e :: S => by
    have ih := cnt_add h hd S
    have hr := h e
    have hx := hd e
    rw [List.filter_cons, List.filter_cons, List.filter_cons, hr]
    cases hp : p e <;> cases hq : q e
    · simpa using ih
    · simp only [Bool.or_true, if_true, Bool.false_eq_true, if_false, List.length_cons, ih]; omega
    · simp only [Bool.or_false, if_true, Bool.false_eq_true, if_false, List.length_cons, ih]; omega
    · exact absurd ⟨hp, hq⟩ hx
theorem cntL_step (S : List Kd) (part leaf : Nat) : cntL S part (leaf + 1) = cntL S part leaf + (S.filter (inB (part : Int) leaf)).length := by
  refine cnt_add (fun e => ?_) (fun e => ?_) S
  · unfold inB
    rw [Bool.eq_iff_iff]
    simp only [Bool.or_eq_true, Bool.and_eq_true, decide_eq_true_iff]
    omega
  · unfold inB
    simp only [Bool.and_eq_true, decide_eq_true_iff]
    omega
theorem cntP_step (S : List Kd) (part : Nat) : cntP S (part + 1) = cntP S part + cntL S part 16 := by
  refine cnt_add (fun e => ?_) (fun e => ?_) S
  · have := leaf_lt e.1
    rw [Bool.eq_iff_iff]
    simp only [Bool.or_eq_true, decide_eq_true_iff]
    omega
  · simp only [decide_eq_true_iff]
    omega
theorem cntP_all (S : List Kd) : cntP S 8 = S.length := by
  unfold cntP
  rw [List.filter_eq_self.2 fun e _ => decide_eq_true (part_lt e.1)]
end Go.Proofs.Ytbfjcohocedoaaa.Wi
namespace Go.Proofs.Ytbfjcohocedoaaa.Wi
open Go Go.RowKit Go.Aw Go.Aw.Cart Go.Proofs.Ytbfjcohocedoaaa.Ca Go.Proofs.Ytbfjcohocedoaaa.Rg
set_option linter.unusedVariables false
set_option linter.unusedSimpArgs false
set_option maxRecDepth 8000
set_option maxHeartbeats 4000000
theorem lvTo_off {p : Nat → Bool} : ∀ {k : Nat}, lvTo p k = [] → ∀ j, j < k → p j = false
  | 0, _, j, hj => by omega
  | k + 1, h, j, hj => by
    rw [lvTo] at h
    by_cases hp : p k = true
    · rw [if_pos hp] at h; simp at h
    · rw [if_neg hp] at h
      by_cases q : j = k
      · rw [q]; simpa using hp
      · exact lvTo_off h j (by omega)
theorem txs_get (l : List Kd) (part : Int) {j : Nat} (hj : j < 16) : (txsF l part).getD j default = listB ((bktsF l part).getD j []) := by
  have h : j < (bktsF l part).length := by rw [bkts_len]; exact hj
  unfold txsF
  rw [List.getD_eq_getElem?_getD, List.getElem?_map, List.getD_eq_getElem?_getD, List.getElem?_eq_getElem h]; rfl
theorem bkt_vec {l : List Kd} (h : LIn l) (part : Int) (j : Nat) : ∀ e ∈ (bktsF l part).getD j [], vecOk e.2.1 := fun e he => (h.kd e (bk_sub e he)).vec
theorem tx_iff {a b : List Kd} (ha : LIn a) (hb : LIn b) (part : Int) {j : Nat} (hj : j < 16) : (txsF a part).getD j default = (txsF b part).getD j default ↔ (bktsF a part).getD j [] = (bktsF b part).getD j [] := by
  rw [txs_get a part hj, txs_get b part hj]
  exact ⟨listB_inj (bkts_ok a part j) (bkts_ok b part j) (bkt_vec ha part j) (bkt_vec hb part j), fun h => by rw [h]⟩
theorem unl_nil {a b : List Kd} (ha : LIn a) (hb : LIn b) (part : Int) : unlF a b part = [] ↔ ∀ j, j < 16 → (bktsF a part).getD j [] = (bktsF b part).getD j [] := by
  refine ⟨fun h j hj => (tx_iff ha hb part hj).1 ?_, fun h => lvTo_none 16 fun j hj => ?_⟩
  · have := lvTo_off h j hj
    simpa using this
  · rw [decide_eq_true ((tx_iff ha hb part hj).2 (h j hj))]; rfl
theorem unl_len (a b : List Kd) (part : Int) : (unlF a b part).length ≤ 16 := lvTo_len _ _
def sumU (a b : List Kd) : Nat → Nat
  | 0 => 0
  | k + 1 => sumU a b k + (unlF a b (k : Int)).length
theorem sumU_le (a b : List Kd) : ∀ k, sumU a b k ≤ 16 * k
  | 0 => Nat.le_refl _
  | k + 1 => by have := sumU_le a b k; have := unl_len a b (k : Int); rw [sumU]; omega
theorem sumU_zero (a b : List Kd) : ∀ k, sumU a b k = 0 ↔ ∀ i : Nat, i < k → unlF a b (i : Int) = []
  | 0 => ⟨fun _ i hi => by omega, fun _ => rfl⟩
  | k + 1 => by
    rw [sumU, Nat.add_eq_zero_iff, sumU_zero a b k, List.length_eq_zero_iff]
    refine ⟨fun h i hi => ?_, fun h => ⟨fun i hi => h i (by omega), h k (by omega)⟩⟩
    by_cases q : i = k
    · rw [q]; exact h.2
    · exact h.1 i (by omega)
def eqTo (a b L : List Kd) : Bool := decide (∀ e ∈ L, keyR e.1 = true → (findK a e.1).1 = (findK b e.1).1)
theorem eqTo_step {a b L : List Kd} {e : Kd} : eqTo a b (L ++ [e]) = (eqTo a b L && (!keyR e.1 || decide ((findK a e.1).1 = (findK b e.1).1))) := by
  unfold eqTo
  rw [Bool.eq_iff_iff]
  simp only [decide_eq_true_iff, Bool.and_eq_true, Bool.or_eq_true, Bool.not_eq_true']
  constructor
  · intro h
    refine ⟨fun x hx => h x (List.mem_append_left _ hx), ?_⟩
    cases hk : keyR e.1 with
    | false => exact .inl rfl
    | true => exact .inr (h e (List.mem_append_right _ List.mem_cons_self) hk)
  · rintro ⟨h1, h2⟩ x hx hk
    rcases List.mem_append.1 hx with q | q
    · exact h1 x q hk
    · rw [List.mem_singleton.1 q] at hk ⊢
      rcases h2 with h2 | h2
      · rw [hk] at h2; cases h2
      · exact h2
theorem same_law {a b : List Kd} (ha : LIn a) (hb : LIn b) (ra : keysF a = true) (rb : keysF b = true) : (decide ((sumU a b 8 : Int) = 0) == eqTo a b (a ++ b)) = true := by
  rw [beq_iff_eq]
  unfold eqTo
  rw [Bool.eq_iff_iff, decide_eq_true_iff, decide_eq_true_iff]
  rw [← bkt_law ra rb]
  rw [show ((sumU a b 8 : Int) = 0) ↔ sumU a b 8 = 0 by omega, sumU_zero]
  exact ⟨fun h p hp => (unl_nil ha hb p).1 (h p hp), fun h p hp => (unl_nil ha hb p).2 (h p hp)⟩
theorem lin_of {l : List Kd} (hg : greatL l = false) (hin : ∀ k ∈ l, KdI k) (hl : l.length ≤ 9223372036854775807) : LIn l := by
  obtain ⟨h1, h2⟩ := greatL_no hg
  exact ⟨by omega, hin, fun k hk => by have := (h2 k hk).2; omega⟩
theorem find_in {l : List Kd} (h : LIn l) (k : List Nat) : (findK l k).1.1.length = 8 ∧ (findK l k).1.2.length ≤ 1000000000 := by
  obtain ⟨c, b, hf⟩ : ∃ c b, findK l k = (c, b) := ⟨_, _, rfl⟩
  rw [hf]
  cases b with
  | false => rw [find_off hf]; exact ⟨rfl, by decide⟩
  | true => have := find_mem hf; exact ⟨(h.kd _ this).vec.1, h.few _ this⟩
theorem keyLeaf_w (k : List Nat) (hk : okB k) (hl : k.length ≤ 1000000) : PCall Try.prog 17 [.p (.v (.string (strOf k)))] (.p (.i (leafF k : Int))) := by
  refine pcall_of Try.func17 rfl (fun w0 F S0 M0 => ?_)
  have := keyAt_w k hk hl
  haveI : PC Try.prog 33 [.p (.v (.string (strOf k)))] True (.tup [.one (.p (.i (partF k : Int))), .one (.p (.i (leafF k : Int)))]) := ⟨fun _ => this⟩
  open B1 in
  as_aux_lemma =>
    repeat' (first | refine rnC ?_ | refine rnSB ?_ | refine rnG ?_ | refine rnU ?_ | ((fail_if_success (refine rnKn ?_)); refine rnP ?_ ?_ <;> (intro hq; try (have hq' := hq; simp only [hqs] at hq'))) | refine rkC ?_ | refine rkSB ?_ | refine rkF ?_ | refine rkU ?_ | ((fail_if_success (refine rkKn ?_)); refine rkP ?_ ?_ <;> (intro hq; try (have hq' := hq; simp only [hqs] at hq'))) | refine stp ?_ | refine ifT ?_ | refine ifF ?_ | (refine ifQ ?_ ?_ <;> (try (intro hn))) | (refine ifB ?_ ?_ <;> (intro hq; try (have hq' := hq; simp only [hqs] at hq'))))
    exact rt1 rfl rfl finS_p rfl
end Go.Proofs.Ytbfjcohocedoaaa.Wi
