/- buckets: what the fixed calls of alive of 19 come to; buckets: alive of 19; buckets in plain Lean: when they are the same, and how many stand there; buckets, the law BucketSame -/
import Derived.Test.YtlaeldgebecppaaGreatPB33
import Derived.Test.YtlaeldgebecppaaGreatPB28
import Derived.Test.YtlaeldgebecppaaGreatPB32
namespace Go.Proofs.YtlaeldgebecppaaGreat.Wi
open Go Go.RowKit Go.Aw Go.Aw.Cart Go.Proofs.YtlaeldgebecppaaGreat.Ca Go.Proofs.YtlaeldgebecppaaGreat.Rg
set_option linter.unusedVariables false
set_option linter.unusedSimpArgs false
set_option maxRecDepth 8000
theorem abc_at : partF [97, 98, 99] = 5 ∧ leafF [97, 98, 99] = 13 := by decide +kernel
def kd1 : Kd := ([97, 98, 99], ([1, 0, 0, 0, 0, 0, 0, 0], []))
def kd2 : Kd := ([97, 98, 100], (zeroV, []))
def l19 : List Kd := [kd1, kd2]
theorem l19_ok : KOk l19 where
  few := by decide
  up := .cons (by intro b hb; simp only [List.mem_cons, List.not_mem_nil, or_false] at hb; rw [hb]; decide) (.cons (fun b hb => by cases hb) .nil)
  key := by intro e he; simp only [l19, List.mem_cons, List.not_mem_nil, or_false] at he; rcases he with rfl | rfl <;> decide
  cart := by
    intro e he
    simp only [l19, List.mem_cons, List.not_mem_nil, or_false] at he
    rcases he with rfl | rfl
    · exact rightF_iff.2 ⟨by decide, by decide, by decide⟩
    · exact z10_right
theorem l19_in : LIn l19 where
  len := by decide
  kd := by
    intro e he
    simp only [l19, List.mem_cons, List.not_mem_nil, or_false] at he
    rcases he with rfl | rfl
    · exact ⟨by intro c hc; simp [kd1] at hc; omega, by decide, ⟨rfl, by decide⟩, by decide⟩
    · exact ⟨by intro c hc; simp [kd2] at hc; omega, by decide, ⟨rfl, by decide⟩, by decide⟩
  few := by
    intro e he
    simp only [l19, List.mem_cons, List.not_mem_nil, or_false] at he
    rcases he with rfl | rfl <;> decide
theorem nil_in : LIn [] := ⟨by decide, fun k hk => (by cases hk), fun k hk => (by cases hk)⟩
theorem st19 : stF l19 = [kd1] := by
  unfold stF l19
  rw [List.filter_cons_of_pos (by decide), List.filter_cons_of_neg (by decide), List.filter_nil]
theorem bk19 : bktsF l19 5 = List.replicate 13 [] ++ [kd1] :: List.replicate 2 [] := by
  unfold bktsF
  rw [if_pos (keys_iff.2 l19_ok), st19]
  refine bk_ext (bkF_len _ _) rfl fun j hj => ?_
  rw [bkF_get _ _ hj]
  have e : inB 5 j kd1 = decide (13 = j) := by
    unfold inB
    rw [show partF kd1.1 = 5 from abc_at.1, show leafF kd1.1 = 13 from abc_at.2]; rfl
  rw [List.filter_cons, e, List.filter_nil]
  clear e
  match j, hj with
  | 0, _ => rfl
  | 1, _ => rfl
  | 2, _ => rfl
  | 3, _ => rfl
  | 4, _ => rfl
  | 5, _ => rfl
  | 6, _ => rfl
  | 7, _ => rfl
  | 8, _ => rfl
  | 9, _ => rfl
  | 10, _ => rfl
  | 11, _ => rfl
  | 12, _ => rfl
  | 13, _ => rfl
  | 14, _ => rfl
  | 15, _ => rfl
  | n + 16, h => exact absurd h (by omega)
theorem bkNil : bktsF [] 5 = List.replicate 16 [] := by
  unfold bktsF
  rw [if_pos (keys_iff.2 kok_nil)]; rfl
theorem of19 : ofF' l19 5 13 = [kd1] := by
  unfold ofF'
  rw [if_pos (by decide), bk19]; rfl
theorem lv19 : lvTo (fun j => decide (0 < ((bktsF l19 5).getD j default).length)) 16 = [13] := by rw [bk19]; decide
theorem lvTo_none {p : Nat → Bool} : ∀ k, (∀ j, j < k → p j = false) → lvTo p k = []
  | 0, _ => rfl
  | k + 1, h => by rw [lvTo, if_neg (by rw [h k (Nat.lt_succ_self k)]; simp)]; exact lvTo_none k fun j hj => h j (Nat.lt_succ_of_lt hj)
theorem un_self (l : List Kd) (part : Int) : unlF l l part = [] := lvTo_none 16 fun j _ => by rw [decide_eq_true rfl]; rfl
theorem tx_nil : txsF [] 5 = List.replicate 16 [0] := by unfold txsF; rw [bkNil]; rfl
theorem un19 : unlF l19 [] 5 = [13] := by
  unfold unlF
  rw [tx_nil]
  unfold txsF
  rw [bk19]; decide
theorem tx19 : 9 < (listB (ofF' l19 5 13)).length := by rw [of19]; decide
/-- the list as it is written out -/
abbrev r19 : List (List PVal) := [[.v (.string { data := #[97, 98, 99] }), .k .u64 1, .k .u64 0, .k .u64 0, .k .u64 0, .k .u64 0, .k .u64 0, .k .u64 0, .k .u64 0, .v (.slice none 0 0)], [.v (.string { data := #[97, 98, 100] }), .k .u64 0, .k .u64 0, .k .u64 0, .k .u64 0, .k .u64 0, .k .u64 0, .k .u64 0, .k .u64 0, .v (.slice none 0 0)]]
theorem ent19 : Ent1 (.p (.sl 10 r19 true)) (.p (.sl 10 (l19.map kR) false)) :=
  Ent1.rows (.cons (.cons .refl (.cons .refl (.cons .refl (.cons .refl (.cons .refl (.cons .refl (.cons .refl (.cons .refl (.cons .refl (.cons .nil .nil)))))))))) (.cons (.cons .refl (.cons .refl (.cons .refl (.cons .refl (.cons .refl (.cons .refl (.cons .refl (.cons .refl (.cons .refl (.cons .nil .nil)))))))))) .nil))
theorem ent19n : Ent1 (.p (.v (.slice none 0 0))) (.p (.sl 10 (([] : List Kd).map kR) false)) := Ent1.nil
theorem a_of : PCall Tryz.prog 16 [.p (.sl 10 r19 true), .p (.i 5), .p (.i 13)] (.p (.sl 10 ([kd1].map kR) false)) := by
  have h := of_w l19 false 5 13 l19_in
  rw [of19] at h
  exact h.ent (.cons ent19 (.cons .refl (.cons .refl .nil)))
theorem a_lv : PCall Tryz.prog 21 [.p (.sl 10 r19 true), .p (.i 5)] (.p (.sl 1 (([13] : List Int).map fun n => [PVal.i n]) false)) := by
  have h := leaves_w l19 false 5 l19_in
  rw [lv19] at h
  exact h.ent (.cons ent19 (.cons .refl .nil))
theorem a_un : PCall Tryz.prog 22 [.p (.sl 10 r19 true), .p (.v (.slice none 0 0)), .p (.i 5)] (.p (.sl 1 (([13] : List Int).map fun n => [PVal.i n]) false)) := by
  have h := unlike_w l19 [] false false 5 l19_in nil_in
  rw [un19] at h
  exact h.ent (.cons ent19 (.cons ent19n (.cons .refl .nil)))
theorem a_us : PCall Tryz.prog 22 [.p (.sl 10 r19 true), .p (.sl 10 r19 true), .p (.i 5)] (.p (.sl 1 (([] : List Int).map fun n => [PVal.i n]) false)) := by
  have h := unlike_w l19 l19 false false 5 l19_in l19_in
  rw [un_self] at h
  exact h.ent (.cons ent19 (.cons ent19 (.cons .refl .nil)))
theorem a_tx : PCall Tryz.prog 14 [.p (.v (.slice none 0 0)), .p (.i 5)] (.a ((List.replicate 16 [0]).map fun b : List Nat => .p (.sl 1 (b.map bR) false))) := by
  have h := texts_w [] false 5 nil_in
  rw [tx_nil] at h
  exact h.ent (.cons ent19n (.cons .refl .nil))
theorem a_te : ∃ X : List Nat, 9 < X.length ∧ PCall Tryz.prog 18 [.p (.sl 10 r19 true), .p (.i 5), .p (.i 13)] (.p (.sl 1 (X.map bR) false)) :=
  ⟨_, tx19, (text_w l19 false 5 13 l19_in).ent (.cons ent19 (.cons .refl (.cons .refl .nil)))⟩
end Go.Proofs.YtlaeldgebecppaaGreat.Wi
namespace Go.Proofs.YtlaeldgebecppaaGreat.Wi
open Go Go.RowKit Go.Aw Go.Aw.Cart Go.Proofs.YtlaeldgebecppaaGreat.Ca Go.Proofs.YtlaeldgebecppaaGreat.Rg
set_option linter.unusedVariables false
set_option linter.unusedSimpArgs false
set_option maxRecDepth 8000
set_option maxHeartbeats 4000000
open B1
theorem alive19_w : PCall Tryz.prog 11 [] (.p (.b true)) := by
  refine pcall_of Tryz.func11 rfl (fun w0 F S0 M0 => ?_)
  obtain ⟨A, hA⟩ : ∃ A : List Kd, A = [kd1] := ⟨_, rfl⟩
  obtain ⟨V, hV⟩ : ∃ V : List Int, V = [13] := ⟨_, rfl⟩
  obtain ⟨U, hU⟩ : ∃ U : List Int, U = [] := ⟨_, rfl⟩
  obtain ⟨T, hT⟩ : ∃ T : List (List Nat), T = List.replicate 16 [0] := ⟨_, rfl⟩
  obtain ⟨X, hX, hte'⟩ := a_te
  have c1 := a_of
  have c2 := a_lv
  have c3 := a_un
  have c4 := a_us
  have c5 := a_tx
  rw [← hA] at c1
  rw [← hV] at c2 c3
  rw [← hU] at c4
  rw [← hT] at c5
  have hof : PC Tryz.prog 16 [.p (.sl 10 r19 true), .p (.i 5), .p (.i 13)] True (.p (.sl 10 (A.map kR) false)) := ⟨fun _ => c1⟩
  have hlv : PC Tryz.prog 21 [.p (.sl 10 r19 true), .p (.i 5)] True (.p (.sl 1 (V.map fun n => [PVal.i n]) false)) := ⟨fun _ => c2⟩
  have hun : PC Tryz.prog 22 [.p (.sl 10 r19 true), .p (.v (.slice none 0 0)), .p (.i 5)] True (.p (.sl 1 (V.map fun n => [PVal.i n]) false)) := ⟨fun _ => c3⟩
  have hus : PC Tryz.prog 22 [.p (.sl 10 r19 true), .p (.sl 10 r19 true), .p (.i 5)] True (.p (.sl 1 (U.map fun n => [PVal.i n]) false)) := ⟨fun _ => c4⟩
  have htx : PC Tryz.prog 14 [.p (.v (.slice none 0 0)), .p (.i 5)] True (.a (T.map fun b : List Nat => .p (.sl 1 (b.map bR) false))) := ⟨fun _ => c5⟩
  have hte : PC Tryz.prog 18 [.p (.sl 10 r19 true), .p (.i 5), .p (.i 13)] True (.p (.sl 1 (X.map bR) false)) := ⟨fun _ => hte'⟩
  have lA : A.length = 1 := by rw [hA]; rfl
  have dA : decide ((A.length : Int) = 1) = true := by rw [hA]; rfl
  have kA : okB (A.getD (Int.toNat 0) default).1 := by rw [hA]; intro c hc; simp [kd1] at hc; omega
  have kA2 : okB [97, 98, 99] := by intro c hc; simp at hc; omega
  have dA2 : decide ((A.getD (Int.toNat 0) default).1 = [97, 98, 99]) = true := decide_eq_true (by rw [hA]; rfl)
  have lV : V.length = 1 := by rw [hV]; rfl
  have dV : decide ((V.length : Int) = 1) = true := by rw [hV]; rfl
  have dV2 : decide (V.getD (Int.toNat 0) default = 13) = true := decide_eq_true (by rw [hV]; rfl)
  have lT : T.length = 16 := by rw [hT]; rfl
  have kT : okB (T.getD (Int.toNat 3) default) := by rw [hT]; intro c hc; simp at hc; omega
  have kT2 : okB [0] := by intro c hc; simp at hc; omega
  have dT : decide (T.getD (Int.toNat 3) default = [0]) = true := decide_eq_true (by rw [hT]; rfl)
  have dU : decide ((U.length : Int) = 0) = true := by rw [hU]; rfl
  have dX : decide (9 < (X.length : Int)) = true := decide_eq_true (by omega)
  clear c1 c2 c3 c4 c5 hA hV hU hT
  repeat' (first | refine rnC ?_ | refine rnSB ?_ | refine rnG ?_ | refine rnU ?_ | ((fail_if_success (refine rnKn ?_)); refine rnP ?_ ?_ <;> (intro hq; try (have hq' := hq; simp only [hqs] at hq'))) | refine rkC ?_ | refine rkSB ?_ | refine rkF ?_ | refine rkU ?_ | ((fail_if_success (refine rkKn ?_)); refine rkP ?_ ?_ <;> (intro hq; try (have hq' := hq; simp only [hqs] at hq'))) | refine stp ?_ | refine ifT ?_ | refine ifF ?_ | (refine ifQ ?_ ?_ <;> (try (intro hn))) | (refine ifB ?_ ?_ <;> (intro hq; try (have hq' := hq; simp only [hqs] at hq'))))
  refine rn_any (by first | exact gd_n rfl rfl | exact gd_t rfl rfl rfl rfl | exact gd_t rfl rfl rfl (by assumption)) rfl (lop_call3 (by rfl) inferInstance (by rfl) (by rfl) (by rfl) (by infer_instance) hof True.intro (by rfl)) ?_
  repeat' (first | refine rnC ?_ | refine rnSB ?_ | refine rnG ?_ | refine rnU ?_ | ((fail_if_success (refine rnKn ?_)); refine rnP ?_ ?_ <;> (intro hq; try (have hq' := hq; simp only [hqs] at hq'))) | refine rkC ?_ | refine rkSB ?_ | refine rkF ?_ | refine rkU ?_ | ((fail_if_success (refine rkKn ?_)); refine rkP ?_ ?_ <;> (intro hq; try (have hq' := hq; simp only [hqs] at hq'))) | refine stp ?_ | refine ifT ?_ | refine ifF ?_ | (refine ifQ ?_ ?_ <;> (try (intro hn))) | (refine ifB ?_ ?_ <;> (intro hq; try (have hq' := hq; simp only [hqs] at hq'))))
  refine rn_any (by first | exact gd_n rfl rfl | exact gd_t rfl rfl rfl rfl | exact gd_t rfl rfl rfl (by assumption)) rfl (lop_call2 (by rfl) inferInstance (by rfl) (by rfl) (by infer_instance) hlv True.intro (by rfl)) ?_
  repeat' (first | refine rnC ?_ | refine rnSB ?_ | refine rnG ?_ | refine rnU ?_ | ((fail_if_success (refine rnKn ?_)); refine rnP ?_ ?_ <;> (intro hq; try (have hq' := hq; simp only [hqs] at hq'))) | refine rkC ?_ | refine rkSB ?_ | refine rkF ?_ | refine rkU ?_ | ((fail_if_success (refine rkKn ?_)); refine rkP ?_ ?_ <;> (intro hq; try (have hq' := hq; simp only [hqs] at hq'))) | refine stp ?_ | refine ifT ?_ | refine ifF ?_ | (refine ifQ ?_ ?_ <;> (try (intro hn))) | (refine ifB ?_ ?_ <;> (intro hq; try (have hq' := hq; simp only [hqs] at hq'))))
  refine rn_any (by first | exact gd_n rfl rfl | exact gd_t rfl rfl rfl rfl | exact gd_t rfl rfl rfl (by assumption)) rfl (lop_call3 (by rfl) inferInstance (by rfl) (by rfl) (by rfl) (by infer_instance) hun True.intro (by rfl)) ?_
  repeat' (first | refine rnC ?_ | refine rnSB ?_ | refine rnG ?_ | refine rnU ?_ | ((fail_if_success (refine rnKn ?_)); refine rnP ?_ ?_ <;> (intro hq; try (have hq' := hq; simp only [hqs] at hq'))) | refine rkC ?_ | refine rkSB ?_ | refine rkF ?_ | refine rkU ?_ | ((fail_if_success (refine rkKn ?_)); refine rkP ?_ ?_ <;> (intro hq; try (have hq' := hq; simp only [hqs] at hq'))) | refine stp ?_ | refine ifT ?_ | refine ifF ?_ | (refine ifQ ?_ ?_ <;> (try (intro hn))) | (refine ifB ?_ ?_ <;> (intro hq; try (have hq' := hq; simp only [hqs] at hq'))))
  refine rn_any (by first | exact gd_n rfl rfl | exact gd_t rfl rfl rfl rfl | exact gd_t rfl rfl rfl (by assumption)) rfl (lop_eqs (a := (A.getD (Int.toNat 0) default).1) (b := [97, 98, 99]) (by rfl) (by infer_instance) (by rfl) (by rfl) kA kA2 (by rfl)) ?_
  repeat' (first | refine rnC ?_ | refine rnSB ?_ | refine rnG ?_ | refine rnU ?_ | ((fail_if_success (refine rnKn ?_)); refine rnP ?_ ?_ <;> (intro hq; try (have hq' := hq; simp only [hqs] at hq'))) | refine rkC ?_ | refine rkSB ?_ | refine rkF ?_ | refine rkU ?_ | ((fail_if_success (refine rkKn ?_)); refine rkP ?_ ?_ <;> (intro hq; try (have hq' := hq; simp only [hqs] at hq'))) | refine stp ?_ | refine ifT ?_ | refine ifF ?_ | (refine ifQ ?_ ?_ <;> (try (intro hn))) | (refine ifB ?_ ?_ <;> (intro hq; try (have hq' := hq; simp only [hqs] at hq'))))
  refine rn_any (by first | exact gd_n rfl rfl | exact gd_t rfl rfl rfl rfl | exact gd_t rfl rfl rfl (by assumption)) rfl (lop_eqs (a := T.getD (Int.toNat 3) default) (b := [0]) (by rfl) (by infer_instance) (by rfl) (by rfl) kT kT2 (by rfl)) ?_
  repeat' (first | refine rnC ?_ | refine rnSB ?_ | refine rnG ?_ | refine rnU ?_ | ((fail_if_success (refine rnKn ?_)); refine rnP ?_ ?_ <;> (intro hq; try (have hq' := hq; simp only [hqs] at hq'))) | refine rkC ?_ | refine rkSB ?_ | refine rkF ?_ | refine rkU ?_ | ((fail_if_success (refine rkKn ?_)); refine rkP ?_ ?_ <;> (intro hq; try (have hq' := hq; simp only [hqs] at hq'))) | refine stp ?_ | refine ifT ?_ | refine ifF ?_ | (refine ifQ ?_ ?_ <;> (try (intro hn))) | (refine ifB ?_ ?_ <;> (intro hq; try (have hq' := hq; simp only [hqs] at hq'))))
  refine rn_any (by first | exact gd_n rfl rfl | exact gd_t rfl rfl rfl rfl | exact gd_t rfl rfl rfl (by assumption)) rfl (lop_call3 (by rfl) inferInstance (by rfl) (by rfl) (by rfl) (by infer_instance) hus True.intro (by rfl)) ?_
  repeat' (first | refine rnC ?_ | refine rnSB ?_ | refine rnG ?_ | refine rnU ?_ | ((fail_if_success (refine rnKn ?_)); refine rnP ?_ ?_ <;> (intro hq; try (have hq' := hq; simp only [hqs] at hq'))) | refine rkC ?_ | refine rkSB ?_ | refine rkF ?_ | refine rkU ?_ | ((fail_if_success (refine rkKn ?_)); refine rkP ?_ ?_ <;> (intro hq; try (have hq' := hq; simp only [hqs] at hq'))) | refine stp ?_ | refine ifT ?_ | refine ifF ?_ | (refine ifQ ?_ ?_ <;> (try (intro hn))) | (refine ifB ?_ ?_ <;> (intro hq; try (have hq' := hq; simp only [hqs] at hq'))))
  refine rn_any (by first | exact gd_n rfl rfl | exact gd_t rfl rfl rfl rfl | exact gd_t rfl rfl rfl (by assumption)) rfl (lop_call3 (by rfl) inferInstance (by rfl) (by rfl) (by rfl) (by infer_instance) hte True.intro (by rfl)) ?_
  as_aux_lemma =>
    repeat' (first | refine rnC ?_ | refine rnSB ?_ | refine rnG ?_ | refine rnU ?_ | ((fail_if_success (refine rnKn ?_)); refine rnP ?_ ?_ <;> (intro hq; try (have hq' := hq; simp only [hqs] at hq'))) | refine rkC ?_ | refine rkSB ?_ | refine rkF ?_ | refine rkU ?_ | ((fail_if_success (refine rkKn ?_)); refine rkP ?_ ?_ <;> (intro hq; try (have hq' := hq; simp only [hqs] at hq'))) | refine stp ?_ | refine ifT ?_ | refine ifF ?_ | (refine ifQ ?_ ?_ <;> (try (intro hn))) | (refine ifB ?_ ?_ <;> (intro hq; try (have hq' := hq; simp only [hqs] at hq'))))
    exact rt1 rfl rfl finS_p (rb dX.symm)
instance alive19_i : PC Tryz.prog 11 [] True (.p (.b true)) := ⟨fun _ => alive19_w⟩
end Go.Proofs.YtlaeldgebecppaaGreat.Wi
namespace Go.Proofs.YtlaeldgebecppaaGreat.Wi
open Go Go.RowKit Go.Aw Go.Aw.Cart Go.Proofs.YtlaeldgebecppaaGreat.Ca Go.Proofs.YtlaeldgebecppaaGreat.Rg
set_option linter.unusedVariables false
set_option linter.unusedSimpArgs false
abbrev upK (l : List Kd) : Prop := l.Pairwise fun a b => bLt a.1 b.1 = true
theorem mem_find : ∀ {l : List Kd}, upK l → ∀ {e : Kd}, e ∈ l → findK l e.1 = (e.2, true)
  | [], _, e, he => by cases he
  | a :: l, hu, e, he => by
    rw [findK]
    rcases List.mem_cons.1 he with q | q
    · rw [q, if_pos rfl]
    · have hlt := (List.pairwise_cons.1 hu).1 e q
      rw [if_neg (fun x => by rw [x, bLt_irr] at hlt; cases hlt)]
      exact mem_find (List.pairwise_cons.1 hu).2 q
theorem find_mem : ∀ {l : List Kd} {k : List Nat} {c : Crt}, findK l k = (c, true) → (k, c) ∈ l
  | [], k, c, h => by cases h
  | a :: l, k, c, h => by
    rw [findK] at h
    by_cases q : a.1 = k
    · rw [if_pos q] at h
      obtain rfl := (Prod.mk.inj h).1
      subst q
      exact List.mem_cons_self
    · rw [if_neg q] at h
      exact List.mem_cons_of_mem _ (find_mem h)
theorem mem_iff {l : List Kd} (hu : upK l) {e : Kd} : e ∈ l ↔ findK l e.1 = (e.2, true) := ⟨mem_find hu, fun h => find_mem h⟩
/-! another cart of one key -/
/-! how many stand there -/
end Go.Proofs.YtlaeldgebecppaaGreat.Wi
namespace Go.Proofs.YtlaeldgebecppaaGreat.Wi
open Go Go.RowKit Go.Aw Go.Aw.Cart Go.Proofs.YtlaeldgebecppaaGreat.Ca Go.Proofs.YtlaeldgebecppaaGreat.Rg
set_option linter.unusedVariables false
set_option linter.unusedSimpArgs false
set_option maxRecDepth 8000
set_option maxHeartbeats 4000000
theorem txs_get (l : List Kd) (part : Int) {j : Nat} (hj : j < 16) : (txsF l part).getD j default = listB ((bktsF l part).getD j []) := by
  have h : j < (bktsF l part).length := by rw [bkts_len]; exact hj
  unfold txsF
  rw [List.getD_eq_getElem?_getD, List.getElem?_map, List.getD_eq_getElem?_getD, List.getElem?_eq_getElem h]; rfl
theorem lin_of {l : List Kd} (hg : greatL l = false) (hin : ∀ k ∈ l, KdI k) (hl : l.length ≤ 9223372036854775807) : LIn l := by
  obtain ⟨h1, h2⟩ := greatL_no hg
  exact ⟨by omega, hin, fun k hk => by have := (h2 k hk).2; omega⟩
end Go.Proofs.YtlaeldgebecppaaGreat.Wi
