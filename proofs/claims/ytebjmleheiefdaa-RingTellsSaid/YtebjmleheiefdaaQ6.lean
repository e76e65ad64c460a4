/- rings: the reference's ring; rings: what a part's list is; alive of 12; rings: how the laws' arguments read -/
import Derived.Test.YtebjmleheiefdaaQ5
import Derived.Test.YtebjmleheiefdaaKf
namespace Go.Proofs.Ytebjmleheiefdaa.Rg
open Go Go.RowKit Go.Aw Go.Aw.Cart Go.Aw.Ord Go.Sort Go.Proofs.Ytebjmleheiefdaa.Ca
set_option linter.unusedVariables false
set_option linter.unusedSimpArgs false
set_option maxRecDepth 8000
set_option maxHeartbeats 4000000
open PB
/-- points put in one by one -/
def insF (l : List Dot) : List Dot := l.foldl (fun S e => insI leP e S) []
theorem insF_snoc (l : List Dot) (e : Dot) : insF (l ++ [e]) = insI leP e (insF l) := by unfold insF; rw [List.foldl_append]; rfl
theorem insF_is (l : List Dot) : (l.Pairwise fun a b => a.2 ≤ b.2) → (insF l).Perm l ∧ upI ltD (insF l) := by
  refine snoc_ind (P := fun l => (l.Pairwise fun a b => a.2 ≤ b.2) → (insF l).Perm l ∧ upI ltD (insF l)) (fun _ => ⟨List.Perm.refl _, List.Pairwise.nil⟩) (fun l x ih h => ?_) l
  obtain ⟨h1, _, h2⟩ := List.pairwise_append.1 h
  obtain ⟨k1, k2⟩ := ih h1
  rw [insF_snoc]
  refine ⟨insI_perm.trans ((k1.cons _).trans (List.perm_append_comm (l₁ := [x]) (l₂ := l))), ins_up k2 fun a ha => ?_⟩
  exact h2 a (k1.mem_iff.1 ha) x (by simp)
theorem insF_all {l : List Dot} (h : l.Pairwise fun a b => a.2 ≤ b.2) : insF l = sortD l := by
  obtain ⟨h1, h2⟩ := insF_is l h
  exact up_uniq ltD_tot (h1.trans (sortD_perm l).symm) h2 (sortD_up l)
theorem insF_len (l : List Dot) : (insF l).length = l.length := by
  refine snoc_ind (P := fun l => (insF l).length = l.length) rfl (fun l x ih => ?_) l
  rw [insF_snoc, insI_perm.length_eq, List.length_cons, ih, List.length_append]; rfl
theorem rowP_2 (node : Nat) : ∀ j, ∀ x ∈ rowP node j, x.2 = node
  | 0 => fun x h => by cases h
  | j + 1 => fun x h => by
    rcases List.mem_append.1 h with k | k
    · exact rowP_2 node j x k
    · rw [List.mem_singleton.1 k]
theorem rowP_pw (node : Nat) (j : Nat) : (rowP node j).Pairwise fun a b => a.2 ≤ b.2 := List.Pairwise.imp_of_mem (R := fun _ _ => True) (fun ha hb _ => by rw [rowP_2 node j _ ha, rowP_2 node j _ hb]; omega) (List.pairwise_of_forall fun _ _ => trivial)
theorem rawP_2 (v : Nat) : ∀ k, ∀ x ∈ rawP v k, 1 ≤ x.2 ∧ x.2 ≤ k
  | 0 => fun x h => by cases h
  | k + 1 => fun x h => by
    rcases List.mem_append.1 h with q | q
    · have := rawP_2 v k x q; omega
    · have := rowP_2 (k + 1) v x q; omega
theorem rawP_pw (v : Nat) : ∀ k, (rawP v k).Pairwise fun a b => a.2 ≤ b.2
  | 0 => List.Pairwise.nil
  | k + 1 => List.pairwise_append.2 ⟨rawP_pw v k, rowP_pw (k + 1) v, fun a ha b hb => by have := rawP_2 v k a ha; have := rowP_2 (k + 1) v b hb; omega⟩
theorem insF_pts (n v : Nat) : insF (rawP v n) = pts n v := insF_all (rawP_pw v n)
theorem map_ins1 (S : List Dot) (e : Dot) (k : Nat) (hk : k = atI leP e S) : (insI leP e S).map (·.1) = (S.map (·.1)).take k ++ [e.1] ++ (S.map (·.1)).drop k := by
  rw [insI, List.map_append, List.map_cons, ← hk, List.map_take, List.map_drop, List.append_assoc]; rfl
theorem map_ins2 (S : List Dot) (e : Dot) (k : Nat) (hk : k = atI leP e S) : (insI leP e S).map (·.2) = (S.map (·.2)).take k ++ [e.2] ++ (S.map (·.2)).drop k := by
  rw [insI, List.map_append, List.map_cons, ← hk, List.map_take, List.map_drop, List.append_assoc]; rfl
abbrev JD := Nat × Option MO
theorem refRing_w (n v : Nat) (hn : n ≤ 8) (hv : v ≤ 16) : PCall Try.prog 10 [.p (.i n), .p (.i v)] (.tup [.one (.p (.sl 1 (((pts n v).map (·.1)).map uR) false)), .one (.p (.sl 1 (((pts n v).map (·.2)).map iR) false))]) := by
  refine pcall_of Try.func10 rfl (fun w0 F S0 M0 => ?_)
  repeat' (first
      | refine rnC ?_
      | refine rnSB ?_
      | refine rnG ?_
      | refine rnU ?_
      | ((fail_if_success (refine rnKn ?_)); refine rnP ?_ ?_ <;> (intro hq; try (have hq' := hq; simp only [hqs] at hq')))
      | refine rkC ?_
      | refine rkSB ?_
      | refine rkF ?_
      | refine rkU ?_
      | ((fail_if_success (refine rkKn ?_)); refine rkP ?_ ?_ <;> (intro hq; try (have hq' := hq; simp only [hqs] at hq')))
      | refine stp ?_
      | refine ifT ?_
      | refine ifF ?_
      | (refine ifQ ?_ ?_ <;> (try (intro hn)))
      | (refine ifB ?_ ?_ <;> (intro hq; try (have hq' := hq; simp only [hqs] at hq'))))
  refine aws_says (says_nils (t := 6) (es := 1) rfl) ?_
  refine aws_says (says_inex (t := 6) rfl) ?_
  refine aws_says (says_nils (t := 7) (es := 1) rfl) ?_
  refine aws_says (says_inex (t := 7) rfl) ?_
  refine aws_loopS [6, 7, 8, 9, 10, 11, 12, 13, 14, 15, 16, 17, 18, 19, 20, 21, 22, 23, 24, 25, 26, 27, 28, 29, 30, 31, 32, 33, 34, 35, 36, 37, 38, 39, 40, 41, 42, 43, 44, 45, 46, 47, 48, 49, 50, 51, 52, 53, 54, 55, 56, 57, 58, 59, 60, 61, 62, 63, 64] [45, 57] (fun (x : Nat × List Int × List Int × JD × JD) => [(8, .p (.i (x.1 + 1))), (6, .p (.sl 1 (x.2.1.map uR) false)), (7, .p (.sl 1 (x.2.2.1.map iR) false))]) (fun x => [(45, x.2.2.2.1), (57, x.2.2.2.2)])
    (fun x => x.1 ≤ n ∧ x.2.1 = (insF (rawP v x.1)).map (·.1) ∧ x.2.2.1 = (insF (rawP v x.1)).map (·.2)) (fun x => n - x.1) (0, [], [], (0, none), (0, none)) ⟨Nat.zero_le _, rfl, rfl⟩ (by exact knA) (by exact knA) ?_
  rintro ⟨k, P, O, ⟨g1, m1⟩, ⟨g2, m2⟩⟩ β γ ⟨hk, hP, hO⟩
  dsimp only at hk hP hO ⊢
  by_cases hkn : k < n
  case neg =>
    have d1 : decide ((k : Int) + 1 ≤ (n : Int)) = false := decide_eq_false (by omega)
    obtain rfl : k = n := by omega
    rw [insF_pts] at hP hO
    rw [← hP, ← hO]
    as_aux_lemma =>
      repeat' (first
          | refine rnC ?_
          | refine rnSB ?_
          | refine rnG ?_
          | refine rnU ?_
          | ((fail_if_success (refine rnKn ?_)); refine rnP ?_ ?_ <;> (intro hq; try (have hq' := hq; simp only [hqs] at hq')))
          | refine rkC ?_
          | refine rkSB ?_
          | refine rkF ?_
          | refine rkU ?_
          | ((fail_if_success (refine rkKn ?_)); refine rkP ?_ ?_ <;> (intro hq; try (have hq' := hq; simp only [hqs] at hq')))
          | refine stp ?_
          | refine ifT ?_
          | refine ifF ?_
          | (refine ifQ ?_ ?_ <;> (try (intro hn)))
          | (refine ifB ?_ ?_ <;> (intro hq; try (have hq' := hq; simp only [hqs] at hq'))))
      exact rt2 rfl rfl finS_p rfl finS_p rfl
  have d1 : decide ((k : Int) + 1 ≤ (n : Int)) = true := decide_eq_true (by omega)
  repeat' (first
      | refine rnC ?_
      | refine rnSB ?_
      | refine rnG ?_
      | refine rnU ?_
      | ((fail_if_success (refine rnKn ?_)); refine rnP ?_ ?_ <;> (intro hq; try (have hq' := hq; simp only [hqs] at hq')))
      | refine rkC ?_
      | refine rkSB ?_
      | refine rkF ?_
      | refine rkU ?_
      | ((fail_if_success (refine rkKn ?_)); refine rkP ?_ ?_ <;> (intro hq; try (have hq' := hq; simp only [hqs] at hq')))
      | refine stp ?_
      | refine ifT ?_
      | refine ifF ?_
      | (refine ifQ ?_ ?_ <;> (try (intro hn)))
      | (refine ifB ?_ ?_ <;> (intro hq; try (have hq' := hq; simp only [hqs] at hq'))))
  refine aws_loopS [6, 7, 9, 10, 11, 12, 13, 19, 20, 21, 22, 23, 24, 25, 26, 27, 28, 29, 30, 31, 32, 33, 34, 35, 36, 37, 38, 39, 40, 41, 42, 43, 44, 45, 46, 47, 48, 49, 50, 51, 52, 53, 54, 55, 56, 57, 58, 59, 60, 61, 62, 63, 64] [45, 57] (fun (x : Nat × List Int × List Int × JD × JD) => [(9, .p (.i x.1)), (6, .p (.sl 1 (x.2.1.map uR) false)), (7, .p (.sl 1 (x.2.2.1.map iR) false))]) (fun x => [(45, x.2.2.2.1), (57, x.2.2.2.2)])
    (fun x => x.1 ≤ v ∧ x.2.1 = (insF (rawP v k ++ rowP (k + 1) x.1)).map (·.1) ∧ x.2.2.1 = (insF (rawP v k ++ rowP (k + 1) x.1)).map (·.2)) (fun x => v - x.1) (0, P, O, (g1, m1), (g2, m2)) ⟨Nat.zero_le _, by rw [rowP, List.append_nil]; exact hP, by rw [rowP, List.append_nil]; exact hO⟩ (by exact knA) (by exact knA) ?_
  clear hP hO
  rintro ⟨j, P, O, ⟨g1, m1⟩, ⟨g2, m2⟩⟩ β γ ⟨hj, hP, hO⟩
  dsimp only at hj hP hO ⊢
  by_cases hjv : j < v
  case neg =>
    have d2 : decide ((j : Int) < (v : Int)) = false := decide_eq_false (by omega)
    obtain rfl : j = v := by omega
    as_aux_lemma =>
      repeat' (first
          | refine rnC ?_
          | refine rnSB ?_
          | refine rnG ?_
          | refine rnU ?_
          | ((fail_if_success (refine rnKn ?_)); refine rnP ?_ ?_ <;> (intro hq; try (have hq' := hq; simp only [hqs] at hq')))
          | refine rkC ?_
          | refine rkSB ?_
          | refine rkF ?_
          | refine rkU ?_
          | ((fail_if_success (refine rkKn ?_)); refine rkP ?_ ?_ <;> (intro hq; try (have hq' := hq; simp only [hqs] at hq')))
          | refine stp ?_
          | refine ifT ?_
          | refine ifF ?_
          | (refine ifQ ?_ ?_ <;> (try (intro hn)))
          | (refine ifB ?_ ?_ <;> (intro hq; try (have hq' := hq; simp only [hqs] at hq'))))
      exact ⟨(k + 1, P, O, (_, _), (_, _)), _, by dsimp only; omega, ⟨by dsimp only; omega, hP, hO⟩, .refl, by exact frA⟩
  have d2 : decide ((j : Int) < (v : Int)) = true := decide_eq_true (by omega)
  obtain ⟨l, hl⟩ : ∃ l, l = rawP v k ++ rowP (k + 1) j := ⟨_, rfl⟩
  have hll : l.length ≤ 144 := by
    rw [hl, List.length_append, rawP_len, rowP_len]
    have : k * v ≤ 8 * 16 := Nat.mul_le_mul (by omega) hv
    omega
  have hnext : rawP v k ++ rowP (k + 1) (j + 1) = l ++ [(ptF ((k : Int) + 1) j, (k : Int) + 1)] := by rw [hl, rowP, ← List.append_assoc]; rfl
  rw [← hl] at hP hO
  have hSl := insF_len l
  obtain ⟨S, hS⟩ : ∃ S, S = insF l := ⟨_, rfl⟩
  rw [← hS] at hP hO hSl
  have pl : P.length = S.length := by rw [hP, List.length_map]
  have ol : O.length = S.length := by rw [hO, List.length_map]
  have pg : ∀ i : Nat, i < S.length → P.getD i default = (S.getD i default).1 := fun i hi => by rw [hP]; exact mapD1 hi
  obtain ⟨e, he⟩ : ∃ e : Dot, e = (ptF ((k : Int) + 1) j, (k : Int) + 1) := ⟨_, rfl⟩
  have q1 : ∀ a, a = atI leP e S → (insF (rawP v k ++ rowP (k + 1) (j + 1))).map (·.1) = P.take a ++ [ptF ((k : Int) + 1) j] ++ P.drop a := fun a ha => by rw [hnext, insF_snoc, ← hS, ← he, map_ins1 S e a ha, ← hP, he]
  have q2 : ∀ a, a = atI leP e S → (insF (rawP v k ++ rowP (k + 1) (j + 1))).map (·.2) = O.take a ++ [(k : Int) + 1] ++ O.drop a := fun a ha => by rw [hnext, insF_snoc, ← hS, ← he, map_ins2 S e a ha, ← hO, he]
  have hle := atI_le (lt := leP) (e := e) (l := S)
  repeat' (first
      | refine rnC ?_
      | refine rnSB ?_
      | refine rnG ?_
      | refine rnU ?_
      | ((fail_if_success (refine rnKn ?_)); refine rnP ?_ ?_ <;> (intro hq; try (have hq' := hq; simp only [hqs] at hq')))
      | refine rkC ?_
      | refine rkSB ?_
      | refine rkF ?_
      | refine rkU ?_
      | ((fail_if_success (refine rkKn ?_)); refine rkP ?_ ?_ <;> (intro hq; try (have hq' := hq; simp only [hqs] at hq')))
      | refine stp ?_
      | refine ifT ?_
      | refine ifF ?_
      | (refine ifQ ?_ ?_ <;> (try (intro hn)))
      | (refine ifB ?_ ?_ <;> (intro hq; try (have hq' := hq; simp only [hqs] at hq'))))
  refine aws_loopS [11, 27, 28, 29, 30, 31, 32, 33, 34, 35, 36, 37, 38, 39, 40] [] (fun (a : Nat) => [(11, .p (.i a))]) (fun _ => []) (fun a => a ≤ atI leP e S) (fun a => S.length - a) 0 (Nat.zero_le _) (by exact knA) (by exact knA) ?_
  intro a β γ ha
  by_cases hal : a < S.length
  · have t1 : decide ((a : Int) < (P.length : Int)) = true := decide_eq_true (by omega)
    by_cases hlt : P.getD (a : Int).toNat default ≤ ptF ((k : Int) + 1) j
    · have t2 : decide (P.getD (a : Int).toNat default ≤ ptF ((k : Int) + 1) j) = true := decide_eq_true hlt
      have ha' := atI_go ha hal (show leP (S.getD a default) e by rw [Int.toNat_natCast, pg a hal] at hlt; rw [he]; exact hlt)
      as_aux_lemma =>
        repeat' (first
            | refine rnC ?_
            | refine rnSB ?_
            | refine rnG ?_
            | refine rnU ?_
            | ((fail_if_success (refine rnKn ?_)); refine rnP ?_ ?_ <;> (intro hq; try (have hq' := hq; simp only [hqs] at hq')))
            | refine rkC ?_
            | refine rkSB ?_
            | refine rkF ?_
            | refine rkU ?_
            | ((fail_if_success (refine rkKn ?_)); refine rkP ?_ ?_ <;> (intro hq; try (have hq' := hq; simp only [hqs] at hq')))
            | refine stp ?_
            | refine ifT ?_
            | refine ifF ?_
            | (refine ifQ ?_ ?_ <;> (try (intro hn)))
            | (refine ifB ?_ ?_ <;> (intro hq; try (have hq' := hq; simp only [hqs] at hq'))))
        exact ⟨a + 1, _, by omega, ha', .refl, by exact frA⟩
    · have t2 : decide (P.getD (a : Int).toNat default ≤ ptF ((k : Int) + 1) j) = false := decide_eq_false hlt
      have ha' := atI_end ha (show ¬ leP (S.getD a default) e by rw [Int.toNat_natCast, pg a hal] at hlt; rw [he]; exact hlt)
      have r1 := q1 (a : Int).toNat (by rw [Int.toNat_natCast]; exact ha')
      have r2 := q2 (a : Int).toNat (by rw [Int.toNat_natCast]; exact ha')
      repeat' (first
          | refine rnC ?_
          | refine rnSB ?_
          | refine rnG ?_
          | refine rnU ?_
          | ((fail_if_success (refine rnKn ?_)); refine rnP ?_ ?_ <;> (intro hq; try (have hq' := hq; simp only [hqs] at hq')))
          | refine rkC ?_
          | refine rkSB ?_
          | refine rkF ?_
          | refine rkU ?_
          | ((fail_if_success (refine rkKn ?_)); refine rkP ?_ ?_ <;> (intro hq; try (have hq' := hq; simp only [hqs] at hq')))
          | refine stp ?_
          | refine ifT ?_
          | refine ifF ?_
          | (refine ifQ ?_ ?_ <;> (try (intro hn)))
          | (refine ifB ?_ ?_ <;> (intro hq; try (have hq' := hq; simp only [hqs] at hq'))))
      refine aws_draws [(4, 45), (7, 45), (11, 45)] mixed (by kernel_rfl) ?_
      repeat' (first
          | refine rk_nil ?_
          | refine rkC ?_
          | refine rkSB ?_
          | refine rkF ?_
          | refine rkU ?_
          | ((fail_if_success (refine rkKn ?_)); refine rkP ?_ ?_ <;> (intro hq; try (have hq' := hq; simp only [hqs] at hq'))))
      repeat' (first
          | refine rnC ?_
          | refine rnSB ?_
          | refine rnG ?_
          | refine rnU ?_
          | ((fail_if_success (refine rnKn ?_)); refine rnP ?_ ?_ <;> (intro hq; try (have hq' := hq; simp only [hqs] at hq')))
          | refine rkC ?_
          | refine rkSB ?_
          | refine rkF ?_
          | refine rkU ?_
          | ((fail_if_success (refine rkKn ?_)); refine rkP ?_ ?_ <;> (intro hq; try (have hq' := hq; simp only [hqs] at hq')))
          | refine stp ?_
          | refine ifT ?_
          | refine ifF ?_
          | (refine ifQ ?_ ?_ <;> (try (intro hn)))
          | (refine ifB ?_ ?_ <;> (intro hq; try (have hq' := hq; simp only [hqs] at hq'))))
      refine aws_draws [(4, 57), (7, 57), (11, 57)] mixed (by kernel_rfl) ?_
      repeat' (first
          | refine rk_nil ?_
          | refine rkC ?_
          | refine rkSB ?_
          | refine rkF ?_
          | refine rkU ?_
          | ((fail_if_success (refine rkKn ?_)); refine rkP ?_ ?_ <;> (intro hq; try (have hq' := hq; simp only [hqs] at hq'))))
      refine aws_nil ?_
      refine blk_normal ?_
      refine aws_says (says_frz (t := 6) (o := 45) rfl rfl rfl (by simp)) ?_
      refine aws_says (says_frz (t := 7) (o := 57) rfl rfl rfl (by simp)) ?_
      as_aux_lemma =>
        repeat' (first
            | refine rnC ?_
            | refine rnSB ?_
            | refine rnG ?_
            | refine rnU ?_
            | ((fail_if_success (refine rnKn ?_)); refine rnP ?_ ?_ <;> (intro hq; try (have hq' := hq; simp only [hqs] at hq')))
            | refine rkC ?_
            | refine rkSB ?_
            | refine rkF ?_
            | refine rkU ?_
            | ((fail_if_success (refine rkKn ?_)); refine rkP ?_ ?_ <;> (intro hq; try (have hq' := hq; simp only [hqs] at hq')))
            | refine stp ?_
            | refine ifT ?_
            | refine ifF ?_
            | (refine ifQ ?_ ?_ <;> (try (intro hn)))
            | (refine ifB ?_ ?_ <;> (intro hq; try (have hq' := hq; simp only [hqs] at hq'))))
        exact ⟨(j + 1, P.take (a : Int).toNat ++ [ptF ((k : Int) + 1) j] ++ P.drop (a : Int).toNat, O.take (a : Int).toNat ++ [(k : Int) + 1] ++ O.drop (a : Int).toNat, (_, _), (_, _)), _, by dsimp only; omega, ⟨by dsimp only; omega, r1.symm, r2.symm⟩, .refl, by exact frA⟩
  · have t1 : decide ((a : Int) < (P.length : Int)) = false := decide_eq_false (by omega)
    have ha' : a = atI leP e S := by omega
    have r1 := q1 (a : Int).toNat (by rw [Int.toNat_natCast]; exact ha')
    have r2 := q2 (a : Int).toNat (by rw [Int.toNat_natCast]; exact ha')
    repeat' (first
        | refine rnC ?_
        | refine rnSB ?_
        | refine rnG ?_
        | refine rnU ?_
        | ((fail_if_success (refine rnKn ?_)); refine rnP ?_ ?_ <;> (intro hq; try (have hq' := hq; simp only [hqs] at hq')))
        | refine rkC ?_
        | refine rkSB ?_
        | refine rkF ?_
        | refine rkU ?_
        | ((fail_if_success (refine rkKn ?_)); refine rkP ?_ ?_ <;> (intro hq; try (have hq' := hq; simp only [hqs] at hq')))
        | refine stp ?_
        | refine ifT ?_
        | refine ifF ?_
        | (refine ifQ ?_ ?_ <;> (try (intro hn)))
        | (refine ifB ?_ ?_ <;> (intro hq; try (have hq' := hq; simp only [hqs] at hq'))))
    refine aws_draws [(4, 45), (7, 45), (11, 45)] mixed (by kernel_rfl) ?_
    repeat' (first
        | refine rk_nil ?_
        | refine rkC ?_
        | refine rkSB ?_
        | refine rkF ?_
        | refine rkU ?_
        | ((fail_if_success (refine rkKn ?_)); refine rkP ?_ ?_ <;> (intro hq; try (have hq' := hq; simp only [hqs] at hq'))))
    repeat' (first
        | refine rnC ?_
        | refine rnSB ?_
        | refine rnG ?_
        | refine rnU ?_
        | ((fail_if_success (refine rnKn ?_)); refine rnP ?_ ?_ <;> (intro hq; try (have hq' := hq; simp only [hqs] at hq')))
        | refine rkC ?_
        | refine rkSB ?_
        | refine rkF ?_
        | refine rkU ?_
        | ((fail_if_success (refine rkKn ?_)); refine rkP ?_ ?_ <;> (intro hq; try (have hq' := hq; simp only [hqs] at hq')))
        | refine stp ?_
        | refine ifT ?_
        | refine ifF ?_
        | (refine ifQ ?_ ?_ <;> (try (intro hn)))
        | (refine ifB ?_ ?_ <;> (intro hq; try (have hq' := hq; simp only [hqs] at hq'))))
    refine aws_draws [(4, 57), (7, 57), (11, 57)] mixed (by kernel_rfl) ?_
    repeat' (first
        | refine rk_nil ?_
        | refine rkC ?_
        | refine rkSB ?_
        | refine rkF ?_
        | refine rkU ?_
        | ((fail_if_success (refine rkKn ?_)); refine rkP ?_ ?_ <;> (intro hq; try (have hq' := hq; simp only [hqs] at hq'))))
    refine aws_nil ?_
    refine blk_normal ?_
    refine aws_says (says_frz (t := 6) (o := 45) rfl rfl rfl (by simp)) ?_
    refine aws_says (says_frz (t := 7) (o := 57) rfl rfl rfl (by simp)) ?_
    as_aux_lemma =>
      repeat' (first
          | refine rnC ?_
          | refine rnSB ?_
          | refine rnG ?_
          | refine rnU ?_
          | ((fail_if_success (refine rnKn ?_)); refine rnP ?_ ?_ <;> (intro hq; try (have hq' := hq; simp only [hqs] at hq')))
          | refine rkC ?_
          | refine rkSB ?_
          | refine rkF ?_
          | refine rkU ?_
          | ((fail_if_success (refine rkKn ?_)); refine rkP ?_ ?_ <;> (intro hq; try (have hq' := hq; simp only [hqs] at hq')))
          | refine stp ?_
          | refine ifT ?_
          | refine ifF ?_
          | (refine ifQ ?_ ?_ <;> (try (intro hn)))
          | (refine ifB ?_ ?_ <;> (intro hq; try (have hq' := hq; simp only [hqs] at hq'))))
      exact ⟨(j + 1, P.take (a : Int).toNat ++ [ptF ((k : Int) + 1) j] ++ P.drop (a : Int).toNat, O.take (a : Int).toNat ++ [(k : Int) + 1] ++ O.drop (a : Int).toNat, (_, _), (_, _)), _, by dsimp only; omega, ⟨by dsimp only; omega, r1.symm, r2.symm⟩, .refl, by exact frA⟩
end Go.Proofs.Ytebjmleheiefdaa.Rg
namespace Go.Proofs.Ytebjmleheiefdaa.Rg
open Go Go.RowKit Go.Aw Go.Aw.Cart Go.Aw.Ord Go.Sort Go.Proofs.Ytebjmleheiefdaa.Ca
set_option linter.unusedVariables false
set_option linter.unusedSimpArgs false
set_option maxRecDepth 8000
set_option maxHeartbeats 4000000
open PB
theorem rowP_in (node : Nat) : ∀ {j : Nat}, 1 ≤ j → ∃ p ∈ rowP node j, p.2 = node
  | j + 1, _ => ⟨_, List.mem_append_right _ List.mem_cons_self, rfl⟩
theorem rawP_in {v : Nat} (hv : 1 ≤ v) : ∀ {k : Nat} {x : Int}, 1 ≤ x → x ≤ k → ∃ p ∈ rawP v k, p.2 = x
  | 0, x, h1, h2 => by omega
  | k + 1, x, h1, h2 => by
    by_cases hx : x = ((k + 1 : Nat) : Int)
    · obtain ⟨p, hp, e⟩ := rowP_in (k + 1) hv
      exact ⟨p, List.mem_append_right _ hp, by rw [e, hx]⟩
    · obtain ⟨p, hp, e⟩ := rawP_in hv (k := k) h1 (by omega)
      exact ⟨p, List.mem_append_left _ hp, e⟩
theorem pts_nodes {n v : Nat} (hv : 1 ≤ v) (x : Int) : (∃ p ∈ pts n v, p.2 = x) ↔ 1 ≤ x ∧ x ≤ n := by
  constructor
  · rintro ⟨p, hp, rfl⟩
    exact rawP_2 v n p ((sortD_perm _).mem_iff.1 hp)
  · rintro ⟨h1, h2⟩
    obtain ⟨p, hp, e⟩ := rawP_in hv h1 h2
    exact ⟨p, (sortD_perm _).mem_iff.2 hp, e⟩
theorem right_is {n v r : Nat} (h : rRight n v r = true) : 1 ≤ n ∧ n ≤ 8 ∧ 1 ≤ v ∧ v ≤ 16 ∧ 1 ≤ r ∧ r ≤ n := by
  unfold rRight at h
  have := of_decide_eq_true h
  omega
theorem lst_len {n v r : Nat} {part : Int} (h : rRight n v r = true) (hp : 0 ≤ part ∧ part < 8) : (lstF n v r part).length = r := by
  obtain ⟨_, _, h3, _, _, h6⟩ := right_is h
  unfold lstF
  rw [if_pos hp]
  exact list_len (n := n) (fun x => pts_nodes h3 x) h6
theorem lst_nodup (n v r : Nat) (part : Int) : (lstF n v r part).Nodup := by
  unfold lstF
  split
  · exact list_nodup _ _ _
  · exact List.nodup_nil
theorem lst_mem {n v r : Nat} {part x : Int} (hv : 1 ≤ v) (h : x ∈ lstF n v r part) : 1 ≤ x ∧ x ≤ n := by
  unfold lstF at h
  split at h
  · obtain ⟨p, hp, e⟩ := list_sub h
    exact (pts_nodes hv x).1 ⟨p, hp, e⟩
  · cases h
theorem lst_out {n v r : Nat} {part : Int} (h : ¬ (0 ≤ part ∧ part < 8)) : lstF n v r part = [] := by unfold lstF; rw [if_neg h]
theorem parts_len (n v r : Nat) (node : Int) : ∀ k, (partsTo n v r node k).length = ((List.range k).filter fun p : Nat => decide (node ∈ lstF n v r p)).length
  | 0 => rfl
  | k + 1 => by
    rw [range_filter, ← parts_len n v r node k, partsTo]
    by_cases h : node ∈ lstF n v r k
    · rw [if_pos h, if_pos (decide_eq_true h), List.length_append]; rfl
    · rw [if_neg h, if_neg (by rw [decide_eq_false h]; simp)]; rfl
theorem parts_mem {n v r : Nat} {node : Int} : ∀ {k : Nat} {x : Int}, x ∈ partsTo n v r node k → 0 ≤ x ∧ x < k ∧ node ∈ lstF n v r x
  | 0, x, h => by cases h
  | k + 1, x, h => by
    rw [partsTo] at h
    split at h
    · rcases List.mem_append.1 h with q | q
      · have := parts_mem q; exact ⟨this.1, by omega, this.2.2⟩
      · rw [List.mem_singleton.1 q]; exact ⟨by omega, by omega, by assumption⟩
    · have := parts_mem h; exact ⟨this.1, by omega, this.2.2⟩
theorem parts_up (n v r : Nat) (node : Int) : ∀ k, (partsTo n v r node k).Pairwise fun a b => a < b
  | 0 => List.Pairwise.nil
  | k + 1 => by
    rw [partsTo]
    split
    · refine List.pairwise_append.2 ⟨parts_up n v r node k, List.pairwise_singleton _ _, fun a ha b hb => ?_⟩
      rw [List.mem_singleton.1 hb]
      exact (parts_mem ha).2.1
    · exact parts_up n v r node k
theorem one_all {part : Int} (hp : 0 ≤ part ∧ part < 8) : (1 : Int) ∈ lstF 1 2 1 part := by
  have h1 := lst_len (n := 1) (v := 2) (r := 1) rfl hp
  obtain ⟨x, hx⟩ := List.exists_mem_of_length_pos (show 0 < (lstF 1 2 1 part).length by omega)
  have := lst_mem (by decide) hx
  obtain rfl : x = 1 := by omega
  exact hx
theorem one_parts : (partsTo 1 2 1 1 8).length = 8 := by
  rw [parts_len, List.filter_eq_self.2 (fun p hp => decide_eq_true (one_all ⟨by omega, by have := List.mem_range.1 hp; omega⟩))]
  exact List.length_range
theorem alive12_w : PCall Try.prog 9 [] (.p (.b true)) := by
  refine pcall_of Try.func9 rfl (fun w0 F S0 M0 => ?_)
  haveI : ∀ c k : Nat, OC Try.prog 6 [.a [.p (.i 1), .p (.i 2), .p (.i 1)]] [] [(c, k)] True (.tup [.one (.ptr c k 0), .one (.p (.i 0))]) [(c, (k + 1, some (ringM 1 2 1)))] := fun c k => ⟨fun _ => newM_i.call rfl⟩
  haveI : ∀ c k : Nat, OC Try.prog 6 [.a [.p (.i 3), .p (.i 4), .p (.i 2)]] [] [(c, k)] True (.tup [.one (.ptr c k 0), .one (.p (.i 0))]) [(c, (k + 1, some (ringM 3 4 2)))] := fun c k => ⟨fun _ => newM_i.call rfl⟩
  haveI : PC Try.prog 6 [.a [.p (.i 1), .p (.i 2), .p (.i 2)]] True (.tup [.one (.p (.v (.pointer none))), .one (.p (.i 1))]) := ⟨fun _ => newBad_w 1 2 2 rfl⟩
  have hl := lst_len (n := 3) (v := 4) (r := 2) (part := 7) rfl (by decide)
  have hnd := lst_nodup 3 4 2 7
  obtain ⟨l, hL⟩ : ∃ l, l = lstF 3 4 2 7 := ⟨_, rfl⟩
  rw [← hL] at hl hnd
  have hne : l.getD (0 : Int).toNat default ≠ l.getD (1 : Int).toNat default := fun e => by
    have h0 : l.getD (0 : Int).toNat default = l[0] := getD_at (i := 0) (by omega)
    have h1 : l.getD (1 : Int).toNat default = l[1] := getD_at (i := 1) (by omega)
    rw [h0, h1] at e
    have := (List.getElem_inj hnd).1 e
    omega
  haveI : ∀ c g m : Nat, OC Try.prog 16 [.o (.ptr c g 0), .p (.i 7)] [(c, (m, some (ringM 3 4 2)))] [] (m = g + 1) (.p (.sl 1 (l.map iR) false)) [(c, (m, some (ringM 3 4 2)))] := fun c g m => ⟨fun h => by rw [hL]; exact list_i.call ⟨h, by decide, by decide, by decide⟩⟩
  obtain ⟨P, hP⟩ : ∃ P, P = partsTo 1 2 1 1 8 := ⟨_, rfl⟩
  have hp8 : P.length = 8 := by rw [hP]; exact one_parts
  haveI : ∀ c g m : Nat, OC Try.prog 18 [.o (.ptr c g 0), .p (.i 1)] [(c, (m, some (ringM 1 2 1)))] [] (m = g + 1) (.p (.sl 1 (P.map iR) false)) [(c, (m, some (ringM 1 2 1)))] := fun c g m => ⟨fun h => by rw [hP]; exact parts_i.call ⟨h, by decide, by decide, by decide⟩⟩
  obtain ⟨Q, hQ⟩ : ∃ Q, Q = (pts 1 2).map (·.1) := ⟨_, rfl⟩
  have hq2 : Q.length = 2 := by rw [hQ, List.length_map, pts_len]
  haveI : ∀ c g m : Nat, OC Try.prog 11 [.o (.ptr c g 0)] [(c, (m, some (ringM 1 2 1)))] [] (m = g + 1) (.p (.sl 1 (Q.map uR) false)) [(c, (m, some (ringM 1 2 1)))] := fun c g m => ⟨fun h => by rw [hQ]; exact points1_i.call ⟨h, by decide, by decide⟩⟩
  obtain ⟨O, hO⟩ : ∃ O, O = (pts 3 4).map (·.2) := ⟨_, rfl⟩
  have ho12 : O.length = 12 := by rw [hO, List.length_map, pts_len]
  haveI : ∀ c g m : Nat, OC Try.prog 13 [.o (.ptr c g 0)] [(c, (m, some (ringM 3 4 2)))] [] (m = g + 1) (.p (.sl 1 (O.map iR) false)) [(c, (m, some (ringM 3 4 2)))] := fun c g m => ⟨fun h => by rw [hO]; exact owners1_i.call ⟨h, by decide, by decide⟩⟩
  haveI : ∀ c g m : Nat, OC Try.prog 17 [.o (.ptr c g 0), .p (.i 1), .p (.i 7)] [(c, (m, some (ringM 1 2 1)))] [] (m = g + 1) (.p (.b true)) [(c, (m, some (ringM 1 2 1)))] := fun c g m => ⟨fun h => by
    have := (holds_i (c := c) (g := g) (m := m) (n := 1) (v := 2) (r := 1) (node := 1) (part := 7)).call ⟨h, by decide, by decide, by decide⟩
    rwa [decide_eq_true (one_all (part := 7) (by decide))] at this⟩
  haveI : ∀ c g m : Nat, OC Try.prog 17 [.o (.ptr c g 0), .p (.i 1), .p (.i 8)] [(c, (m, some (ringM 1 2 1)))] [] (m = g + 1) (.p (.b false)) [(c, (m, some (ringM 1 2 1)))] := fun c g m => ⟨fun h => by
    have := (holds_i (c := c) (g := g) (m := m) (n := 1) (v := 2) (r := 1) (node := 1) (part := 8)).call ⟨h, by decide, by decide, by decide⟩
    rwa [decide_eq_false (show (1 : Int) ∉ lstF 1 2 1 8 by rw [lst_out (by decide)]; simp)] at this⟩
  have d1 : decide ((P.length : Int) = 8) = true := decide_eq_true (by omega)
  have d2 : decide ((Q.length : Int) = 2) = true := decide_eq_true (by omega)
  have d3 : decide ((l.length : Int) = 2) = true := decide_eq_true (by omega)
  have d4 : decide (l.getD (0 : Int).toNat default ≠ l.getD (1 : Int).toNat default) = true := decide_eq_true hne
  have d5 : decide ((O.length : Int) = 12) = true := decide_eq_true (by omega)
  repeat' (first
      | refine rnC ?_
      | refine rnSB ?_
      | refine rnG ?_
      | refine rnU ?_
      | ((fail_if_success (refine rnKn ?_)); refine rnP ?_ ?_ <;> (intro hq; try (have hq' := hq; simp only [hqs] at hq')))
      | refine rkC ?_
      | refine rkSB ?_
      | refine rkF ?_
      | refine rkU ?_
      | ((fail_if_success (refine rkKn ?_)); refine rkP ?_ ?_ <;> (intro hq; try (have hq' := hq; simp only [hqs] at hq')))
      | refine stp ?_
      | refine ifT ?_
      | refine ifF ?_
      | (refine ifQ ?_ ?_ <;> (try (intro hn)))
      | (refine ifB ?_ ?_ <;> (intro hq; try (have hq' := hq; simp only [hqs] at hq'))))
  refine aws_draws [(8, 10), (14, 10), (20, 10), (24, 10), (47, 20), (53, 20)] mixed (by kernel_rfl) ?_
  repeat' (first
      | refine rk_nil ?_
      | refine rkC ?_
      | refine rkSB ?_
      | refine rkF ?_
      | refine rkU ?_
      | ((fail_if_success (refine rkKn ?_)); refine rkP ?_ ?_ <;> (intro hq; try (have hq' := hq; simp only [hqs] at hq'))))
  as_aux_lemma =>
    repeat' (first
        | refine rnC ?_
        | refine rnSB ?_
        | refine rnG ?_
        | refine rnU ?_
        | ((fail_if_success (refine rnKn ?_)); refine rnP ?_ ?_ <;> (intro hq; try (have hq' := hq; simp only [hqs] at hq')))
        | refine rkC ?_
        | refine rkSB ?_
        | refine rkF ?_
        | refine rkU ?_
        | ((fail_if_success (refine rkKn ?_)); refine rkP ?_ ?_ <;> (intro hq; try (have hq' := hq; simp only [hqs] at hq')))
        | refine stp ?_
        | refine ifT ?_
        | refine ifF ?_
        | (refine ifQ ?_ ?_ <;> (try (intro hn)))
        | (refine ifB ?_ ?_ <;> (intro hq; try (have hq' := hq; simp only [hqs] at hq'))))
    exact rt1 rfl rfl finS_p (rb rfl)
instance alive12_i : PC Try.prog 9 [] True (.p (.b true)) := ⟨fun _ => alive12_w⟩
end Go.Proofs.Ytebjmleheiefdaa.Rg
namespace Go.Proofs.Ytebjmleheiefdaa.Rg
open Go Go.RowKit Go.Aw Go.Aw.Cart Go.Proofs.Ytebjmleheiefdaa.Ca
set_option linter.unusedVariables false
set_option linter.unusedSimpArgs false
theorem ri64_of {n : Int} (h : IntKind.i64.min ≤ n ∧ n ≤ IntKind.i64.max) : -9223372036854775808 ≤ n ∧ n ≤ 9223372036854775807 := by
  simp only [IntKind.min, IntKind.max, IntKind.signed, IntKind.bits] at h
  simp at h; omega
theorem rd_intR : Reads Try.prog 3 Int (fun n => [PVal.k .i64 n]) (fun n => -9223372036854775808 ≤ n ∧ n ≤ 9223372036854775807) := (reads_int inferInstance).imp' id (fun _ _ => rfl) (fun _ h => ri64_of h)
theorem rd_cfg : Reads Try.prog 23 (Int × Int × Int) (fun o => [.i o.1, .i o.2.1, .i o.2.2]) (fun _ => True) :=
  (reads_struct (inferInstance : TI Try.prog 23 _ _ _)
    (readsFs_cons (inferInstance : TI Try.prog 3 _ _ _) rd_intR (readsFs_cons (inferInstance : TI Try.prog 3 _ _ _) rd_intR (readsFs_cons (inferInstance : TI Try.prog 3 _ _ _) rd_intR (readsFs_nil rfl))))).imp
    (fun x => (x.1, x.2.1, x.2.2.1)) (fun x => rfl) (fun x h => trivial)
/-- a membership that may be, as natural numbers -/
theorem cfg_nat {c1 c2 c3 : Int} (h : rRight c1 c2 c3 = true) : ∃ n v r : Nat, c1 = n ∧ c2 = v ∧ c3 = r := by
  unfold rRight at h
  have := of_decide_eq_true h
  exact ⟨c1.toNat, c2.toNat, c3.toNat, by omega, by omega, by omega⟩
end Go.Proofs.Ytebjmleheiefdaa.Rg
