/- buckets: BucketOnce; buckets: BucketOnce over what was read -/
import Derived.Test.YtbfjcohocedoaaaS4
import Derived.Test.YtbfjcohocedoaaaS2
namespace Go.Proofs.Ytbfjcohocedoaaa.Wi
open Go Go.RowKit Go.Aw Go.Aw.Cart Go.Proofs.Ytbfjcohocedoaaa.Ca Go.Proofs.Ytbfjcohocedoaaa.Rg
set_option linter.unusedVariables false
set_option linter.unusedSimpArgs false
set_option maxRecDepth 8000
set_option maxHeartbeats 4000000
open WD
theorem st_step (l : List Kd) {i : Nat} (h : i < l.length) : (stF (l.take (i + 1))).length = (stF (l.take i)).length + if offF (l.getD i default) = true then 0 else 1 := by
  rw [takeK_get h]
  unfold stF
  rw [List.filter_append, List.length_append]
  cases ho : offF (l.getD i default) with
  | true => rw [List.filter_cons_of_neg (by rw [ho]; simp), List.filter_nil, if_pos rfl]; rfl
  | false => rw [List.filter_cons_of_pos (by rw [ho]; rfl), List.filter_nil, if_neg (by simp)]; rfl
theorem cntL_of (l : List Kd) (hr : keysF l = true) (p leaf : Nat) (hl : leaf < 16) : cntL (stF l) p (leaf + 1) = cntL (stF l) p leaf + ((bktsF l (p : Int)).getD leaf []).length := by
  rw [cntL_step]
  unfold bktsF
  rw [if_pos hr, bkF_get _ _ hl]
theorem cntP_le (S : List Kd) (p : Nat) : cntP S p ≤ S.length := List.length_filter_le _ _
theorem cntL_le (S : List Kd) (p j : Nat) : cntL S p j ≤ S.length := List.length_filter_le _ _
theorem bucketOnce_w (l : List Kd) (ex : Bool) (hl : l.length ≤ 9223372036854775807) (hin : ∀ k ∈ l, KdI k) : PCall Try.prog 4 [.p (.sl 10 (l.map kR) ex)] (.p (.b true)) := by
  refine pcall_of Try.func4 rfl (fun w0 F S0 M0 => ?_)
  have c0 := pgreat_w l ex hl
  cases hg : greatL l with
  | true =>
    rw [hg] at c0
    haveI : PC Try.prog 8 [.p (.sl 10 (l.map kR) ex)] True (.p (.b true)) := ⟨fun _ => c0⟩
    as_aux_lemma =>
      repeat' (first | refine rnC ?_ | refine rnSB ?_ | refine rnG ?_ | refine rnU ?_ | ((fail_if_success (refine rnKn ?_)); refine rnP ?_ ?_ <;> (intro hq; try (have hq' := hq; simp only [hqs] at hq'))) | refine rkC ?_ | refine rkSB ?_ | refine rkF ?_ | refine rkU ?_ | ((fail_if_success (refine rkKn ?_)); refine rkP ?_ ?_ <;> (intro hq; try (have hq' := hq; simp only [hqs] at hq'))) | refine stp ?_ | refine ifT ?_ | refine ifF ?_ | (refine ifQ ?_ ?_ <;> (try (intro hn))) | (refine ifB ?_ ?_ <;> (intro hq; try (have hq' := hq; simp only [hqs] at hq'))))
      exact rt1 rfl rfl finS_p rfl
  | false =>
  rw [hg] at c0
  haveI : PC Try.prog 8 [.p (.sl 10 (l.map kR) ex)] True (.p (.b false)) := ⟨fun _ => c0⟩
  have hL := lin_of hg hin hl
  have hl5 := hL.len
  have c2 := pright_w l ex (by omega) hin hL.few
  cases hR : keysF l with
  | false =>
    rw [hR] at c2
    haveI : PC Try.prog 9 [.p (.sl 10 (l.map kR) ex)] True (.p (.b false)) := ⟨fun _ => c2⟩
    as_aux_lemma =>
      repeat' (first | refine rnC ?_ | refine rnSB ?_ | refine rnG ?_ | refine rnU ?_ | ((fail_if_success (refine rnKn ?_)); refine rnP ?_ ?_ <;> (intro hq; try (have hq' := hq; simp only [hqs] at hq'))) | refine rkC ?_ | refine rkSB ?_ | refine rkF ?_ | refine rkU ?_ | ((fail_if_success (refine rkKn ?_)); refine rkP ?_ ?_ <;> (intro hq; try (have hq' := hq; simp only [hqs] at hq'))) | refine stp ?_ | refine ifT ?_ | refine ifF ?_ | (refine ifQ ?_ ?_ <;> (try (intro hn))) | (refine ifB ?_ ?_ <;> (intro hq; try (have hq' := hq; simp only [hqs] at hq'))))
      exact rt1 rfl rfl finS_p rfl
  | true =>
  rw [hR] at c2
  haveI : PC Try.prog 9 [.p (.sl 10 (l.map kR) ex)] True (.p (.b true)) := ⟨fun _ => c2⟩
  have hok := keys_iff.1 hR
  have hSl := st_len l
  have cOf : ∀ p leaf : Nat, leaf < 16 → PCall Try.prog 15 [.p (.sl 10 (l.map kR) ex), .p (.i (p : Int)), .p (.i (leaf : Int))] (.p (.sl 10 (((bktsF l (p : Int)).getD leaf []).map kR) false)) := fun p leaf h => by
    have := of_w l ex (p : Int) (leaf : Int) hL
    unfold ofF' at this
    rw [if_pos ⟨by omega, by omega⟩, Int.toNat_natCast] at this
    exact this
  clear c0 c2
  repeat' (first | refine rnC ?_ | refine rnSB ?_ | refine rnG ?_ | refine rnU ?_ | ((fail_if_success (refine rnKn ?_)); refine rnP ?_ ?_ <;> (intro hq; try (have hq' := hq; simp only [hqs] at hq'))) | refine rkC ?_ | refine rkSB ?_ | refine rkF ?_ | refine rkU ?_ | ((fail_if_success (refine rkKn ?_)); refine rkP ?_ ?_ <;> (intro hq; try (have hq' := hq; simp only [hqs] at hq'))) | refine stp ?_ | refine ifT ?_ | refine ifF ?_ | (refine ifQ ?_ ?_ <;> (try (intro hn))) | (refine ifB ?_ ?_ <;> (intro hq; try (have hq' := hq; simp only [hqs] at hq'))))
  refine aws_sm [(0, .p (.sl 10 (l.map kR) ex)), (3, .p (.i 0)), (4, .p (.i 0))] [(8, (0, none))] (by exact knA) (by exact knA) fun ν => ?_
  refine aws_loopS (0 :: [2, 3, 4, 5, 6, 7, 8, 9, 20, 21, 22, 23, 24, 25, 26, 27, 28, 29, 30, 31, 32, 33, 34, 35, 36, 37, 38, 39, 40, 41, 42, 43, 44, 45, 46, 47, 48, 49, 50, 51, 52, 53, 54, 55, 56, 57, 58, 59, 60, 61, 62, 63, 64, 65, 66, 67, 68, 69, 70, 71, 72, 73, 74, 75, 76, 77, 78, 79, 80, 81, 82, 83]) [8] (fun (x : Nat × Nat × Nat × Option MO) => [(4, .p (.i x.1)), (3, .p (.i x.2.1)), (0, .p (.sl 10 (l.map kR) ex))]) (fun x => [(8, (x.2.2.1, x.2.2.2))]) (fun x => x.1 ≤ 8 ∧ x.2.1 = cntP (stF l) x.1) (fun x => 8 - x.1) (0, 0, 0, none) ⟨Nat.zero_le _, (cntP_zero _).symm⟩ (by exact knA) (by exact knA) ?_
  rintro ⟨p, n, g, mo⟩ β γ ⟨hp8, hn⟩
  dsimp only at hp8 hn ⊢
  by_cases hp : p < 8
  · have d1 : decide ((p : Int) < 8) = true := decide_eq_true (by omega)
    repeat' (first | refine rnC ?_ | refine rnSB ?_ | refine rnG ?_ | refine rnU ?_ | ((fail_if_success (refine rnKn ?_)); refine rnP ?_ ?_ <;> (intro hq; try (have hq' := hq; simp only [hqs] at hq'))) | refine rkC ?_ | refine rkSB ?_ | refine rkF ?_ | refine rkU ?_ | ((fail_if_success (refine rkKn ?_)); refine rkP ?_ ?_ <;> (intro hq; try (have hq' := hq; simp only [hqs] at hq'))) | refine stp ?_ | refine ifT ?_ | refine ifF ?_ | (refine ifQ ?_ ?_ <;> (try (intro hn))) | (refine ifB ?_ ?_ <;> (intro hq; try (have hq' := hq; simp only [hqs] at hq'))))
    refine aws_loopS (0 :: 4 :: [2, 3, 5, 6, 7, 8, 9, 24, 25, 26, 27, 28, 29, 30, 31, 32, 33, 34, 35, 36, 37, 38, 39, 40, 41, 42, 43, 44, 45, 46, 47, 48, 49, 50, 51, 52, 53, 54, 55, 56, 57, 58, 59, 60, 61, 62, 63, 64, 65, 66, 67, 68, 69, 70, 71, 72, 73, 74, 75, 76, 77, 78, 79, 80, 81, 82, 83]) [8] (fun (x : Nat × Nat × Nat × Option MO) => [(5, .p (.i x.1)), (3, .p (.i x.2.1)), (0, .p (.sl 10 (l.map kR) ex)), (4, .p (.i p))]) (fun x => [(8, (x.2.2.1, x.2.2.2))]) (fun x => x.1 ≤ 16 ∧ x.2.1 = cntP (stF l) p + cntL (stF l) p x.1) (fun x => 16 - x.1) (0, n, g, mo) ⟨Nat.zero_le _, by dsimp only; rw [cntL_zero]; exact hn⟩ (by exact knA) (by exact knA) ?_
    clear hn
    rintro ⟨j, n2, g2, mo2⟩ β2 γ2 ⟨hj16, hn⟩
    dsimp only at hj16 hn ⊢
    by_cases hj : j < 16
    · have d2 : decide ((j : Int) < 16) = true := decide_eq_true (by omega)
      have c3 := cOf p j hj
      have hmem : ∀ e, e ∈ (bktsF l (p : Int)).getD j [] → e ∈ l ∧ emptyF e.2 = false ∧ keyR e.1 = true ∧ (partF e.1 : Int) = (p : Int) ∧ leafF e.1 = j := fun e => (mem_bkt hR hj).1
      have hbl : ((bktsF l (p : Int)).getD j []).length ≤ l.length := bk_lenle
      have hcn := cntL_of l hR p j hj
      have hnl : n2 ≤ 1000000 := by have := cntP_le (stF l) p; have := cntL_le (stF l) p j; omega
      have hnx : n2 + ((bktsF l (p : Int)).getD j []).length = cntP (stF l) p + cntL (stF l) p (j + 1) := by rw [hcn]; omega
      generalize (bktsF l (p : Int)).getD j [] = B at c3 hmem hbl hcn hnx
      haveI : PC Try.prog 15 [.p (.sl 10 (l.map kR) ex), .p (.i (p : Int)), .p (.i (j : Int))] True (.p (.sl 10 (B.map kR) false)) := ⟨fun _ => c3⟩
      clear c3 cOf hcn
      repeat' (first | refine rnC ?_ | refine rnSB ?_ | refine rnG ?_ | refine rnU ?_ | ((fail_if_success (refine rnKn ?_)); refine rnP ?_ ?_ <;> (intro hq; try (have hq' := hq; simp only [hqs] at hq'))) | refine rkC ?_ | refine rkSB ?_ | refine rkF ?_ | refine rkU ?_ | ((fail_if_success (refine rkKn ?_)); refine rkP ?_ ?_ <;> (intro hq; try (have hq' := hq; simp only [hqs] at hq'))) | refine stp ?_ | refine ifT ?_ | refine ifF ?_ | (refine ifQ ?_ ?_ <;> (try (intro hn))) | (refine ifB ?_ ?_ <;> (intro hq; try (have hq' := hq; simp only [hqs] at hq'))))
      refine aws_loopS (0 :: 4 :: 5 :: 6 :: [2, 7, 8, 9, 32, 33, 34, 35, 36, 37, 38, 39, 40, 41, 42, 43, 44, 45, 46, 47, 48, 49, 50, 51, 52, 53, 54, 55, 56, 57, 58, 59, 60, 61, 62, 63, 64, 65, 66, 67, 68, 69, 70, 71, 72, 73, 74, 75, 76, 77, 78, 79]) [8] (fun (x : Nat × Nat × Option MO) => [(7, .p (.i x.1)), (0, .p (.sl 10 (l.map kR) ex)), (4, .p (.i p)), (5, .p (.i j)), (6, .p (.sl 10 (B.map kR) false))]) (fun x => [(8, (x.2.1, x.2.2))]) (fun x => x.1 ≤ B.length) (fun x => B.length - x.1) (0, g2, mo2) (Nat.zero_le _) (by exact knA) (by exact knA) ?_
      rintro ⟨i, g3, mo3⟩ β3 γ3 hi
      dsimp only at hi ⊢
      by_cases hil : i < B.length
      · have d3 : decide ((i : Int) < (B.length : Int)) = true := decide_eq_true (by omega)
        have hme : B.getD (i : Int).toNat default ∈ B := by rw [Int.toNat_natCast, getD_at hil]; exact List.getElem_mem _
        obtain ⟨m1, m2, m3, m4, m5⟩ := hmem _ hme
        have hk := hin _ m1
        have k20 := hok.key _ m1
        have k6 : (B.getD (i : Int).toNat default).1.length ≤ 1000000 := by omega
        have f1 := find_w l ex (B.getD (i : Int).toNat default).1 (by omega) (fun k hk => (hin k hk).key) hk.key
        rw [mem_find hok.up m1] at f1
        have f2 := same_w (B.getD (i : Int).toNat default).2.1 (B.getD (i : Int).toNat default).2.1 (B.getD (i : Int).toNat default).2.2 (B.getD (i : Int).toNat default).2.2 false false hk.vec.1 hk.vec.1 (hL.few _ m1)
        rw [show ∀ (v : List Int) (l : List Ent), sameF v v l l = true by intro v l; simp [sameF]] at f2
        have f3 := keyPart_w (B.getD (i : Int).toNat default).1 hk.key k6
        have f4 := keyLeaf_w (B.getD (i : Int).toNat default).1 hk.key k6
        obtain ⟨P, hP⟩ : ∃ P : Int, P = (partF (B.getD (i : Int).toNat default).1 : Int) := ⟨_, rfl⟩
        obtain ⟨F, hF⟩ : ∃ F : Int, F = (leafF (B.getD (i : Int).toNat default).1 : Int) := ⟨_, rfl⟩
        rw [← hP] at f3
        rw [← hF] at f4
        haveI : PC Try.prog 12 [.p (.sl 10 (l.map kR) ex), .p (.v (.string (strOf (B.getD (i : Int).toNat default).1)))] True (.tup [.agg (cL (B.getD (i : Int).toNat default).2.1 (B.getD (i : Int).toNat default).2.2 false), .one (.p (.b true))]) := ⟨fun _ => f1⟩
        haveI : PC Try.prog 14 [cV (B.getD (i : Int).toNat default).2.1 (B.getD (i : Int).toNat default).2.2 false, cV (B.getD (i : Int).toNat default).2.1 (B.getD (i : Int).toNat default).2.2 false] True (.p (.b true)) := ⟨fun _ => f2⟩
        haveI : PC Try.prog 16 [.p (.v (.string (strOf (B.getD (i : Int).toNat default).1)))] True (.p (.i P)) := ⟨fun _ => f3⟩
        haveI : PC Try.prog 17 [.p (.v (.string (strOf (B.getD (i : Int).toNat default).1)))] True (.p (.i F)) := ⟨fun _ => f4⟩
        have d4 : decide (P ≠ (p : Int)) = false := decide_eq_false fun h => h (hP.trans m4)
        have d5 : decide (F ≠ (j : Int)) = false := decide_eq_false fun h => h (by rw [hF, m5])
        clear f1 f2 f3 f4 m1 m2 m3 m4 m5 hk hme hmem hok hn hnx hP hF hR hg hL hin k20 k6
        as_aux_lemma =>
          repeat' (first | refine rnC ?_ | refine rnSB ?_ | refine rnG ?_ | refine rnU ?_ | refine rkC ?_ | refine rkSB ?_ | refine rkF ?_ | refine rkU ?_ | refine stp ?_ | refine aws_draws [] mixed (by kernel_rfl) ?_ | refine ifT ?_ | refine ifF ?_ | fail)
          exact ⟨(i + 1, g3 + 1, some (.box 32 (cL (B.getD (i : Int).toNat default).2.1 (B.getD (i : Int).toNat default).2.2 false))), _, by dsimp only; omega, by dsimp only; omega, .refl, by exact frA⟩
      · have d3 : decide ((i : Int) < (B.length : Int)) = false := decide_eq_false (by omega)
        clear hmem hn hok
        as_aux_lemma =>
          repeat' (first | refine rnC ?_ | refine rnSB ?_ | refine rnG ?_ | refine rnU ?_ | ((fail_if_success (refine rnKn ?_)); refine rnP ?_ ?_ <;> (intro hq; try (have hq' := hq; simp only [hqs] at hq'))) | refine rkC ?_ | refine rkSB ?_ | refine rkF ?_ | refine rkU ?_ | ((fail_if_success (refine rkKn ?_)); refine rkP ?_ ?_ <;> (intro hq; try (have hq' := hq; simp only [hqs] at hq'))) | refine stp ?_ | refine ifT ?_ | refine ifF ?_ | (refine ifQ ?_ ?_ <;> (try (intro hn))) | (refine ifB ?_ ?_ <;> (intro hq; try (have hq' := hq; simp only [hqs] at hq'))))
          exact ⟨(j + 1, n2 + B.length, g3, mo3), _, by dsimp only; omega, ⟨by dsimp only; omega, hnx⟩, .refl, by exact frA⟩
    · have d2 : decide ((j : Int) < 16) = false := decide_eq_false (by omega)
      obtain rfl : j = 16 := by omega
      rw [← cntP_step] at hn
      clear hok cOf
      as_aux_lemma =>
        repeat' (first | refine rnC ?_ | refine rnSB ?_ | refine rnG ?_ | refine rnU ?_ | ((fail_if_success (refine rnKn ?_)); refine rnP ?_ ?_ <;> (intro hq; try (have hq' := hq; simp only [hqs] at hq'))) | refine rkC ?_ | refine rkSB ?_ | refine rkF ?_ | refine rkU ?_ | ((fail_if_success (refine rkKn ?_)); refine rkP ?_ ?_ <;> (intro hq; try (have hq' := hq; simp only [hqs] at hq'))) | refine stp ?_ | refine ifT ?_ | refine ifF ?_ | (refine ifQ ?_ ?_ <;> (try (intro hn))) | (refine ifB ?_ ?_ <;> (intro hq; try (have hq' := hq; simp only [hqs] at hq'))))
        exact ⟨(p + 1, n2, g2, mo2), _, by dsimp only; omega, ⟨by dsimp only; omega, hn⟩, .refl, by exact frA⟩
  · have d1 : decide ((p : Int) < 8) = false := decide_eq_false (by omega)
    obtain rfl : p = 8 := by omega
    rw [cntP_all] at hn
    clear cOf
    repeat' (first | refine rnC ?_ | refine rnSB ?_ | refine rnG ?_ | refine rnU ?_ | ((fail_if_success (refine rnKn ?_)); refine rnP ?_ ?_ <;> (intro hq; try (have hq' := hq; simp only [hqs] at hq'))) | refine rkC ?_ | refine rkSB ?_ | refine rkF ?_ | refine rkU ?_ | ((fail_if_success (refine rkKn ?_)); refine rkP ?_ ?_ <;> (intro hq; try (have hq' := hq; simp only [hqs] at hq'))) | refine stp ?_ | refine ifT ?_ | refine ifF ?_ | (refine ifQ ?_ ?_ <;> (try (intro hn))) | (refine ifB ?_ ?_ <;> (intro hq; try (have hq' := hq; simp only [hqs] at hq'))))
    refine aws_sm [(0, .p (.sl 10 (l.map kR) ex)), (3, .p (.i n)), (10, .p (.i 0)), (11, .p (.i 0))] [] (by exact knA) (by exact knA) fun ν => ?_
    refine aws_loopS (0 :: [10, 11, 84, 85, 86, 87, 88, 89, 90, 91, 92, 93, 94, 95, 96, 97, 98, 99, 100, 101, 102, 103, 104, 105, 106, 107]) [] (fun (x : Nat × Nat) => [(11, .p (.i x.1)), (10, .p (.i x.2)), (0, .p (.sl 10 (l.map kR) ex))]) (fun x => []) (fun x => x.1 ≤ l.length ∧ x.2 = (stF (l.take x.1)).length) (fun x => l.length - x.1) (0, 0) ⟨Nat.zero_le _, rfl⟩ (by exact knA) (by exact knA) ?_
    rintro ⟨i, w⟩ β2 γ2 ⟨hi, hw⟩
    dsimp only at hi hw ⊢
    by_cases hil : i < l.length
    · have d2 : decide ((i : Int) < (l.length : Int)) = true := decide_eq_true (by omega)
      have hst := st_step l hil
      rw [← hw, show l.getD i default = l.getD (i : Int).toNat default by rw [Int.toNat_natCast]] at hst
      have hme : l.getD (i : Int).toNat default ∈ l := by rw [Int.toNat_natCast, getD_at hil]; exact List.getElem_mem _
      have hwl : w ≤ 100000 := by have := st_len (l.take i); rw [List.length_take] at this; omega
      have hk := hin _ hme
      have f3 := keyRightL_w (l.getD (i : Int).toNat default).1 hk.key hk.len
      have f6 : PCall Try.prog 14 [cV (l.getD (i : Int).toNat default).2.1 (l.getD (i : Int).toNat default).2.2 false, .a [.p (.k .u64 0), .p (.k .u64 0), .p (.k .u64 0), .p (.k .u64 0), .p (.k .u64 0), .p (.k .u64 0), .p (.k .u64 0), .p (.k .u64 0), .p (.v (.slice none 0 0))]] (.p (.b (sameF (l.getD (i : Int).toNat default).2.1 zeroV (l.getD (i : Int).toNat default).2.2 []))) := (same_w (l.getD (i : Int).toNat default).2.1 zeroV (l.getD (i : Int).toNat default).2.2 [] false false hk.vec.1 rfl (hL.few _ hme)).ent (.cons Ent1.refl (.cons (Ent1.cells (.cons .refl (.cons .refl (.cons .refl (.cons .refl (.cons .refl (.cons .refl (.cons .refl (.cons .refl (.cons .nil .nil)))))))))) .nil))
      rw [show offF (l.getD (i : Int).toNat default) = (sameF (l.getD (i : Int).toNat default).2.1 zeroV (l.getD (i : Int).toNat default).2.2 [] || !keyR (l.getD (i : Int).toNat default).1) from rfl] at hst
      generalize keyR (l.getD (i : Int).toNat default).1 = kk at f3 hst
      generalize sameF (l.getD (i : Int).toNat default).2.1 zeroV (l.getD (i : Int).toNat default).2.2 [] = sm at f6 hst
      haveI c3 : PC Try.prog 14 [cV (l.getD (i : Int).toNat default).2.1 (l.getD (i : Int).toNat default).2.2 false, .a [.p (.k .u64 0), .p (.k .u64 0), .p (.k .u64 0), .p (.k .u64 0), .p (.k .u64 0), .p (.k .u64 0), .p (.k .u64 0), .p (.k .u64 0), .p (.v (.slice none 0 0))]] True (.p (.b sm)) := ⟨fun _ => f6⟩
      haveI : PC Try.prog 13 [.p (.v (.string (strOf (l.getD (i : Int).toNat default).1)))] True (.p (.b kk)) := ⟨fun _ => f3⟩
      clear hok hw hn f3 f6 hk hme
      cases kk with
      | false =>
        have e1 : (stF (l.take (i + 1))).length = w := by rw [hst]; cases sm <;> rfl
        as_aux_lemma =>
          repeat' (first | refine rnC ?_ | refine rnSB ?_ | refine rnG ?_ | refine rnU ?_ | ((fail_if_success (refine rnKn ?_)); refine rnP ?_ ?_ <;> (intro hq; try (have hq' := hq; simp only [hqs] at hq'))) | refine rkC ?_ | refine rkSB ?_ | refine rkF ?_ | refine rkU ?_ | ((fail_if_success (refine rkKn ?_)); refine rkP ?_ ?_ <;> (intro hq; try (have hq' := hq; simp only [hqs] at hq'))) | refine stp ?_ | refine ifT ?_ | refine ifF ?_ | (refine ifQ ?_ ?_ <;> (try (intro hn))) | (refine ifB ?_ ?_ <;> (intro hq; try (have hq' := hq; simp only [hqs] at hq'))))
          exact ⟨(i + 1, w), _, by dsimp only; omega, ⟨by dsimp only; omega, e1.symm⟩, .refl, by exact frA⟩
      | true =>
        cases sm with
        | false =>
          have e1 : (stF (l.take (i + 1))).length = w + 1 := by rw [hst]; rfl
          as_aux_lemma =>
            repeat' (first | refine rnC ?_ | refine rnSB ?_ | refine rnG ?_ | refine rnU ?_ | ((fail_if_success (refine rnKn ?_)); refine rnP ?_ ?_ <;> (intro hq; try (have hq' := hq; simp only [hqs] at hq'))) | refine rkC ?_ | refine rkSB ?_ | refine rkF ?_ | refine rkU ?_ | ((fail_if_success (refine rkKn ?_)); refine rkP ?_ ?_ <;> (intro hq; try (have hq' := hq; simp only [hqs] at hq'))) | refine stp ?_ | refine ifT ?_ | refine ifF ?_ | (refine ifQ ?_ ?_ <;> (try (intro hn))) | (refine ifB ?_ ?_ <;> (intro hq; try (have hq' := hq; simp only [hqs] at hq'))))
            exact ⟨(i + 1, w + 1), _, by dsimp only; omega, ⟨by dsimp only; omega, e1.symm⟩, .refl, by exact frA⟩
        | true =>
          have e1 : (stF (l.take (i + 1))).length = w := by rw [hst]; rfl
          as_aux_lemma =>
            repeat' (first | refine rnC ?_ | refine rnSB ?_ | refine rnG ?_ | refine rnU ?_ | ((fail_if_success (refine rnKn ?_)); refine rnP ?_ ?_ <;> (intro hq; try (have hq' := hq; simp only [hqs] at hq'))) | refine rkC ?_ | refine rkSB ?_ | refine rkF ?_ | refine rkU ?_ | ((fail_if_success (refine rkKn ?_)); refine rkP ?_ ?_ <;> (intro hq; try (have hq' := hq; simp only [hqs] at hq'))) | refine stp ?_ | refine ifT ?_ | refine ifF ?_ | (refine ifQ ?_ ?_ <;> (try (intro hn))) | (refine ifB ?_ ?_ <;> (intro hq; try (have hq' := hq; simp only [hqs] at hq'))))
            exact ⟨(i + 1, w), _, by dsimp only; omega, ⟨by dsimp only; omega, e1.symm⟩, .refl, by exact frA⟩
    · have d2 : decide ((i : Int) < (l.length : Int)) = false := decide_eq_false (by omega)
      obtain rfl : i = l.length := by omega
      rw [List.take_length] at hw
      have e1 : decide ((n : Int) = (w : Int)) = true := decide_eq_true (by omega)
      clear hok hw hn
      as_aux_lemma =>
        repeat' (first | refine rnC ?_ | refine rnSB ?_ | refine rnG ?_ | refine rnU ?_ | ((fail_if_success (refine rnKn ?_)); refine rnP ?_ ?_ <;> (intro hq; try (have hq' := hq; simp only [hqs] at hq'))) | refine rkC ?_ | refine rkSB ?_ | refine rkF ?_ | refine rkU ?_ | ((fail_if_success (refine rkKn ?_)); refine rkP ?_ ?_ <;> (intro hq; try (have hq' := hq; simp only [hqs] at hq'))) | refine stp ?_ | refine ifT ?_ | refine ifF ?_ | (refine ifQ ?_ ?_ <;> (try (intro hn))) | (refine ifB ?_ ?_ <;> (intro hq; try (have hq' := hq; simp only [hqs] at hq'))))
        exact rt1 rfl rfl finS_p (rb e1.symm)
end Go.Proofs.Ytbfjcohocedoaaa.Wi
namespace Go.Proofs.Ytbfjcohocedoaaa.Wi
open Go Go.RowKit Go.Aw Go.Aw.Cart Go.Proofs.Ytbfjcohocedoaaa.Ca
set_option linter.unusedVariables false
set_option linter.unusedSimpArgs false
theorem bucketOnce_a (a : List Kd) (h : a.length ≤ maxLen ∧ ∀ k ∈ a, KdI k) : PCall Try.prog 4 [argAV false [.sl 10 (a.map fun k => kR k) false]] (.p (.b true)) := bucketOnce_w a false h.1 h.2
end Go.Proofs.Ytbfjcohocedoaaa.Wi
