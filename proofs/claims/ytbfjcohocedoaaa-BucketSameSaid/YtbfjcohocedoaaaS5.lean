/- buckets: BucketSame; buckets: BucketSame over what was read -/
import Derived.Test.YtbfjcohocedoaaaS4
import Derived.Test.YtbfjcohocedoaaaS2
namespace Go.Proofs.Ytbfjcohocedoaaa.Wi
open Go Go.RowKit Go.Aw Go.Aw.Cart Go.Proofs.Ytbfjcohocedoaaa.Ca Go.Proofs.Ytbfjcohocedoaaa.Rg
set_option linter.unusedVariables false
set_option linter.unusedSimpArgs false
set_option maxRecDepth 8000
set_option maxHeartbeats 4000000
namespace B8
theorem lopC {C : Ctx} {o : Oper} {σ : St} {e : Eff} {ro : Nat → Bool} (h : LOp C o σ e ro := by
    first | (apply lop_bzK; (focus rfl); (focus exact inferInstance); (focus exact inferInstance); (focus exact inferInstance); (focus rfl); (focus rfl); (focus rfl)) | (apply lop_lend2; (focus rfl); (focus exact inferInstance); (focus rfl); (focus rfl); (focus rfl); (focus exact (List.length_map ..).symm); (focus first | exact lk_m1 rfl | exact lk_m2 rfl | exact lk_m3 rfl | exact lk_o rfl | exact lk_a2 rfl | exact lk_a3 rfl | exact lk_a4 rfl | exact lk_a1 rfl | exact lk_a5 rfl | exact lk_a6 rfl | exact lk_a7 rfl | exact lk_a8 rfl | exact lk_a rfl); (focus exact inferInstance); (focus exact inferInstance); (focus first | exact True.intro | assumption | rfl | omega | ((repeat' (first | assumption | refine And.intro ?_ ?_ | omega | rfl)); done) | fail); (focus exact RV.v); (focus rfl)) | exact WD.lopC | exact lopQ | fail) : LOp C o σ e ro := h
section steps
variable {C : Ctx} {ops : Array Oper} {o : Oper} {rest : List Oper} {K : St → Prop} {σ : St} {e : Eff} {ro : Nat → Bool} {W : List (Nat × Nat)} {i : Nat}
theorem rnC {d : Nat} (hk : RunN C ops rest K (e.app (some d) σ)) (hg : Guard ops σ o true := by first | exact gd_n rfl rfl | exact gd_t rfl rfl rfl rfl | exact gd_t rfl rfl rfl (by assumption)) (hd : o.dst = some d := by rfl) (h : LOp C o σ e ro := by exact lopC) : RunN C ops (o :: rest) K σ := rn_any hg hd h hk
theorem rkC {d : Nat} (hk : RunK C ops W (i + 1) rest K (e.app (some d) σ)) (hg : Guard ops σ o true := by first | exact gd_n rfl rfl | exact gd_t rfl rfl rfl rfl | exact gd_t rfl rfl rfl (by assumption)) (hd' : o.dst = some d := by rfl) (hd : dOk C o.dst = true := by rfl) (h : LOp C o σ e ro := by exact lopC)
    (hro : ∀ x, ro x = true → okObj ops W i x = true := by first | exact fun _ => ro_none | exact ro_one rfl | exact ro_k1 rfl | exact ro_one (by kernel_rfl) | exact ro_k1 (by kernel_rfl) | exact ro_kIn (by decide)) (hob : ∀ p ∈ e.obj, (i, p.1) ∈ W := by first | exact ob_none | exact ob_one (by decide) | decide) : RunK C ops W i (o :: rest) K σ := rk_wr hg hd' hd h hro hob hk
end steps
end B8
open B8
theorem bucketSame_w (a b : List Kd) (ex ey : Bool) (hal : a.length ≤ 9223372036854775807) (hbl : b.length ≤ 9223372036854775807) (ka : ∀ k ∈ a, KdI k) (kb : ∀ k ∈ b, KdI k) : PCall Try.prog 3 [.p (.sl 10 (a.map kR) ex), .p (.sl 10 (b.map kR) ey)] (.p (.b true)) := by
  refine pcall_of Try.func3 rfl (fun w0 F S0 M0 => ?_)
  have c0 := pgreat_w a ex hal
  have c1 := pgreat_w b ey hbl
  cases hg : greatL a with
  | true =>
    rw [hg] at c0
    haveI : PC Try.prog 8 [.p (.sl 10 (a.map kR) ex)] True (.p (.b true)) := ⟨fun _ => c0⟩
    as_aux_lemma =>
      repeat' (first | refine rnC ?_ | refine rnSB ?_ | refine rnG ?_ | refine rnU ?_ | ((fail_if_success (refine rnKn ?_)); refine rnP ?_ ?_ <;> (intro hq; try (have hq' := hq; simp only [hqs] at hq'))) | refine rkC ?_ | refine rkSB ?_ | refine rkF ?_ | refine rkU ?_ | ((fail_if_success (refine rkKn ?_)); refine rkP ?_ ?_ <;> (intro hq; try (have hq' := hq; simp only [hqs] at hq'))) | refine stp ?_ | refine ifT ?_ | refine ifF ?_ | (refine ifQ ?_ ?_ <;> (try (intro hn))) | (refine ifB ?_ ?_ <;> (intro hq; try (have hq' := hq; simp only [hqs] at hq'))))
      exact rt1 rfl rfl finS_p rfl
  | false =>
  rw [hg] at c0
  haveI : PC Try.prog 8 [.p (.sl 10 (a.map kR) ex)] True (.p (.b false)) := ⟨fun _ => c0⟩
  have ha := lin_of hg ka hal
  cases hh : greatL b with
  | true =>
    rw [hh] at c1
    haveI : PC Try.prog 8 [.p (.sl 10 (b.map kR) ey)] True (.p (.b true)) := ⟨fun _ => c1⟩
    as_aux_lemma =>
      repeat' (first | refine rnC ?_ | refine rnSB ?_ | refine rnG ?_ | refine rnU ?_ | ((fail_if_success (refine rnKn ?_)); refine rnP ?_ ?_ <;> (intro hq; try (have hq' := hq; simp only [hqs] at hq'))) | refine rkC ?_ | refine rkSB ?_ | refine rkF ?_ | refine rkU ?_ | ((fail_if_success (refine rkKn ?_)); refine rkP ?_ ?_ <;> (intro hq; try (have hq' := hq; simp only [hqs] at hq'))) | refine stp ?_ | refine ifT ?_ | refine ifF ?_ | (refine ifQ ?_ ?_ <;> (try (intro hn))) | (refine ifB ?_ ?_ <;> (intro hq; try (have hq' := hq; simp only [hqs] at hq'))))
      exact rt1 rfl rfl finS_p rfl
  | false =>
  rw [hh] at c1
  haveI : PC Try.prog 8 [.p (.sl 10 (b.map kR) ey)] True (.p (.b false)) := ⟨fun _ => c1⟩
  have hb := lin_of hh kb hbl
  have al := ha.len
  have bl := hb.len
  have c2 := pright_w a ex (by omega) ka ha.few
  have c3 := pright_w b ey (by omega) kb hb.few
  cases ra : keysF a with
  | false =>
    rw [ra] at c2
    haveI : PC Try.prog 9 [.p (.sl 10 (a.map kR) ex)] True (.p (.b false)) := ⟨fun _ => c2⟩
    as_aux_lemma =>
      repeat' (first | refine rnC ?_ | refine rnSB ?_ | refine rnG ?_ | refine rnU ?_ | ((fail_if_success (refine rnKn ?_)); refine rnP ?_ ?_ <;> (intro hq; try (have hq' := hq; simp only [hqs] at hq'))) | refine rkC ?_ | refine rkSB ?_ | refine rkF ?_ | refine rkU ?_ | ((fail_if_success (refine rkKn ?_)); refine rkP ?_ ?_ <;> (intro hq; try (have hq' := hq; simp only [hqs] at hq'))) | refine stp ?_ | refine ifT ?_ | refine ifF ?_ | (refine ifQ ?_ ?_ <;> (try (intro hn))) | (refine ifB ?_ ?_ <;> (intro hq; try (have hq' := hq; simp only [hqs] at hq'))))
      exact rt1 rfl rfl finS_p rfl
  | true =>
  rw [ra] at c2
  haveI : PC Try.prog 9 [.p (.sl 10 (a.map kR) ex)] True (.p (.b true)) := ⟨fun _ => c2⟩
  cases rB : keysF b with
  | false =>
    rw [rB] at c3
    haveI : PC Try.prog 9 [.p (.sl 10 (b.map kR) ey)] True (.p (.b false)) := ⟨fun _ => c3⟩
    as_aux_lemma =>
      repeat' (first | refine rnC ?_ | refine rnSB ?_ | refine rnG ?_ | refine rnU ?_ | ((fail_if_success (refine rnKn ?_)); refine rnP ?_ ?_ <;> (intro hq; try (have hq' := hq; simp only [hqs] at hq'))) | refine rkC ?_ | refine rkSB ?_ | refine rkF ?_ | refine rkU ?_ | ((fail_if_success (refine rkKn ?_)); refine rkP ?_ ?_ <;> (intro hq; try (have hq' := hq; simp only [hqs] at hq'))) | refine stp ?_ | refine ifT ?_ | refine ifF ?_ | (refine ifQ ?_ ?_ <;> (try (intro hn))) | (refine ifB ?_ ?_ <;> (intro hq; try (have hq' := hq; simp only [hqs] at hq'))))
      exact rt1 rfl rfl finS_p rfl
  | true =>
  rw [rB] at c3
  haveI : PC Try.prog 9 [.p (.sl 10 (b.map kR) ey)] True (.p (.b true)) := ⟨fun _ => c3⟩
  have law := same_law ha hb ra rB
  have cU : ∀ i : Nat, PC Try.prog 11 [.p (.sl 10 (a.map kR) ex), .p (.sl 10 (b.map kR) ey), .p (.i (i : Int))] True (.p (.sl 1 ((unlF a b (i : Int)).map fun n => [PVal.i n]) false)) := fun i => ⟨fun _ => unlike_w a b ex ey i ha hb⟩
  clear c0 c1 c2 c3
  repeat' (first | refine rnC ?_ | refine rnSB ?_ | refine rnG ?_ | refine rnU ?_ | ((fail_if_success (refine rnKn ?_)); refine rnP ?_ ?_ <;> (intro hq; try (have hq' := hq; simp only [hqs] at hq'))) | refine rkC ?_ | refine rkSB ?_ | refine rkF ?_ | refine rkU ?_ | ((fail_if_success (refine rkKn ?_)); refine rkP ?_ ?_ <;> (intro hq; try (have hq' := hq; simp only [hqs] at hq'))) | refine stp ?_ | refine ifT ?_ | refine ifF ?_ | (refine ifQ ?_ ?_ <;> (try (intro hn))) | (refine ifB ?_ ?_ <;> (intro hq; try (have hq' := hq; simp only [hqs] at hq'))))
  refine aws_loopS [5, 6, 31, 32, 33, 34, 35, 36, 37, 38, 39, 40, 41] [] (fun (x : Nat × Nat) => [(6, .p (.i x.1)), (5, .p (.i x.2))]) (fun _ => []) (fun x => x.1 ≤ 8 ∧ x.2 = sumU a b x.1) (fun x => 8 - x.1) (0, 0) ⟨Nat.zero_le _, rfl⟩ (by exact knA) (by exact knA) ?_
  rintro ⟨i, n⟩ β γ ⟨hi, hn⟩
  dsimp only at hi hn ⊢
  by_cases hil : i < 8
  · have d1 : decide ((i : Int) < 8) = true := decide_eq_true (by omega)
    haveI := cU i
    have hs : sumU a b (i + 1) = n + (unlF a b (i : Int)).length := by rw [sumU, hn]
    have hnl : n ≤ 128 := by have := sumU_le a b i; omega
    have hul := unl_len a b (i : Int)
    generalize unlF a b (i : Int) = U at *
    clear hn law cU
    as_aux_lemma =>
      repeat' (first | refine rnC ?_ | refine rnSB ?_ | refine rnG ?_ | refine rnU ?_ | ((fail_if_success (refine rnKn ?_)); refine rnP ?_ ?_ <;> (intro hq; try (have hq' := hq; simp only [hqs] at hq'))) | refine rkC ?_ | refine rkSB ?_ | refine rkF ?_ | refine rkU ?_ | ((fail_if_success (refine rkKn ?_)); refine rkP ?_ ?_ <;> (intro hq; try (have hq' := hq; simp only [hqs] at hq'))) | refine stp ?_ | refine ifT ?_ | refine ifF ?_ | (refine ifQ ?_ ?_ <;> (try (intro hn))) | (refine ifB ?_ ?_ <;> (intro hq; try (have hq' := hq; simp only [hqs] at hq'))))
      exact ⟨(i + 1, n + U.length), _, by dsimp only; omega, ⟨by dsimp only; omega, hs.symm⟩, .refl, by exact frA⟩
  · have d1 : decide ((i : Int) < 8) = false := decide_eq_false (by omega)
    obtain rfl : i = 8 := by omega
    rw [← hn] at law
    clear hn cU
    have hroom : (100000 : Nat) + 100000 ≤ maxLen := by decide
    repeat' (first | refine rnC ?_ | refine rnSB ?_ | refine rnG ?_ | refine rnU ?_ | ((fail_if_success (refine rnKn ?_)); refine rnP ?_ ?_ <;> (intro hq; try (have hq' := hq; simp only [hqs] at hq'))) | refine rkC ?_ | refine rkSB ?_ | refine rkF ?_ | refine rkU ?_ | ((fail_if_success (refine rkKn ?_)); refine rkP ?_ ?_ <;> (intro hq; try (have hq' := hq; simp only [hqs] at hq'))) | refine stp ?_ | refine ifT ?_ | refine ifF ?_ | (refine ifQ ?_ ?_ <;> (try (intro hn))) | (refine ifB ?_ ?_ <;> (intro hq; try (have hq' := hq; simp only [hqs] at hq'))))
    have hLin : ∀ e ∈ ([] : List Kd) ++ a ++ b, KdI e ∧ e.1.length ≤ 20 := by
      intro e he
      rw [List.nil_append] at he
      rcases List.mem_append.1 he with q | q
      · exact ⟨ka e q, (keys_iff.1 ra).key e q⟩
      · exact ⟨kb e q, (keys_iff.1 rB).key e q⟩
    have hLl : (([] : List Kd) ++ a ++ b).length ≤ 200000 := by simp only [List.nil_append, List.length_append]; omega
    rw [show a ++ b = ([] : List Kd) ++ a ++ b from rfl] at law
    generalize ([] : List Kd) ++ a ++ b = L at hLin hLl law ⊢
    obtain ⟨Q, hQ⟩ : ∃ Q : List Kd → Bool, Q = eqTo a b := ⟨_, rfl⟩
    have hQs : ∀ M e, Q (M ++ [e]) = (Q M && (!keyR e.1 || decide ((findK a e.1).1 = (findK b e.1).1))) := fun M e => by rw [hQ]; exact eqTo_step
    have hQ0 : Q [] = true := by rw [hQ]; exact decide_eq_true fun e he => by cases he
    rw [← hQ] at law
    clear hQ
    refine aws_loopS [7, 9, 10, 11, 12, 13, 47, 48, 49, 50, 51, 52, 53, 54, 55, 56, 57, 58, 59, 60, 61, 62, 63, 64, 65, 66, 67, 68, 69, 70, 71, 72, 73, 74, 75, 76, 77, 78, 79, 80, 81, 82, 83, 84, 85, 86, 87] [10, 12] (fun (x : Nat × Bool × Option MO × Option MO) => [(9, .p (.i x.1)), (7, .p (.b x.2.1))]) (fun x => [(10, (x.1, x.2.2.1)), (12, (x.1, x.2.2.2))]) (fun x => x.1 ≤ L.length ∧ x.2.1 = Q (L.take x.1)) (fun x => L.length - x.1) (0, true, none, none) ⟨Nat.zero_le _, hQ0.symm⟩ (by exact knA) (by exact knA) ?_
    rintro ⟨i, q, m10, m12⟩ β γ ⟨hi, hq⟩
    dsimp only at hi hq ⊢
    by_cases hil2 : i < L.length
    · have ei : (i : Int).toNat = i := Int.toNat_natCast i
      have hme : L.getD (i : Int).toNat default ∈ L := by rw [ei, getD_at hil2]; exact List.getElem_mem _
      have hst : L.take (i + 1) = L.take i ++ [L.getD (i : Int).toNat default] := by rw [takeK_get hil2, ei]
      have hes := hQs (L.take i) (L.getD (i : Int).toNat default)
      rw [← hst, ← hq] at hes
      have hei := hLin _ hme
      have f1 := find_w a ex (L.getD (i : Int).toNat default).1 (by omega) (fun k hk => (ka k hk).key) hei.1.key
      have f2 := find_w b ey (L.getD (i : Int).toNat default).1 (by omega) (fun k hk => (kb k hk).key) hei.1.key
      have f3 := keyRightL_w (L.getD (i : Int).toNat default).1 hei.1.key hei.1.len
      have f4 := find_in ha (L.getD (i : Int).toNat default).1
      have f5 := find_in hb (L.getD (i : Int).toNat default).1
      generalize keyR (L.getD (i : Int).toNat default).1 = kk at f3 hes
      generalize findK a (L.getD (i : Int).toNat default).1 = r at f1 f4 hes
      generalize findK b (L.getD (i : Int).toNat default).1 = s at f2 f5 hes
      obtain ⟨⟨x, xs⟩, bx⟩ := r
      obtain ⟨⟨y, ys⟩, bY⟩ := s
      dsimp only at f1 f2 f4 f5 hes
      have f6 := same_w x y xs ys false false f4.1 f5.1 f4.2
      have hsm : decide (((x, xs) : Crt) = (y, ys)) = sameF x y xs ys := by
        rw [Bool.eq_iff_iff, decide_eq_true_iff, Prod.mk.injEq]
        unfold sameF
        rw [Bool.and_eq_true, decide_eq_true_iff, decide_eq_true_iff]
      rw [hsm] at hes
      generalize sameF x y xs ys = sm at f6 hes
      have d1 : decide ((i : Int) < (L.length : Int)) = true := decide_eq_true (by omega)
      haveI : PC Try.prog 12 [.p (.sl 10 (a.map kR) ex), .p (.v (.string (strOf (L.getD (i : Int).toNat default).1)))] True (.tup [.agg (cL x xs false), .one (.p (.b bx))]) := ⟨fun _ => f1⟩
      haveI : PC Try.prog 12 [.p (.sl 10 (b.map kR) ey), .p (.v (.string (strOf (L.getD (i : Int).toNat default).1)))] True (.tup [.agg (cL y ys false), .one (.p (.b bY))]) := ⟨fun _ => f2⟩
      haveI : PC Try.prog 14 [cV x xs false, cV y ys false] True (.p (.b sm)) := ⟨fun _ => f6⟩
      clear f1 f2 f6 hsm f4 f5 hei hme hQs hQ0 law hLin hq ha hb ka kb ra rB hst
      cases q with
      | false =>
        rw [Bool.false_and] at hes
        haveI : PC Try.prog 13 [.p (.v (.string (strOf (L.getD (i : Int).toNat default).1)))] True (.p (.b kk)) := ⟨fun _ => f3⟩
        as_aux_lemma =>
          repeat' (first | refine rnC ?_ | refine rnSB ?_ | refine rnG ?_ | refine rnU ?_ | ((fail_if_success (refine rnKn ?_)); refine rnP ?_ ?_ <;> (intro hq; try (have hq' := hq; simp only [hqs] at hq'))) | refine rkC ?_ | refine rkSB ?_ | refine rkF ?_ | refine rkU ?_ | ((fail_if_success (refine rkKn ?_)); refine rkP ?_ ?_ <;> (intro hq; try (have hq' := hq; simp only [hqs] at hq'))) | refine stp ?_ | refine ifT ?_ | refine ifF ?_ | (refine ifQ ?_ ?_ <;> (try (intro hn))) | (refine ifB ?_ ?_ <;> (intro hq; try (have hq' := hq; simp only [hqs] at hq'))))
          exact ⟨(i + 1, false, _, _), _, by dsimp only; omega, ⟨by dsimp only; omega, hes.symm⟩, .refl, by exact frA⟩
      | true =>
        rw [Bool.true_and] at hes
        cases kk with
        | false =>
          haveI : PC Try.prog 13 [.p (.v (.string (strOf (L.getD (i : Int).toNat default).1)))] True (.p (.b false)) := ⟨fun _ => f3⟩
          as_aux_lemma =>
            repeat' (first | refine rnC ?_ | refine rnSB ?_ | refine rnG ?_ | refine rnU ?_ | ((fail_if_success (refine rnKn ?_)); refine rnP ?_ ?_ <;> (intro hq; try (have hq' := hq; simp only [hqs] at hq'))) | refine rkC ?_ | refine rkSB ?_ | refine rkF ?_ | refine rkU ?_ | ((fail_if_success (refine rkKn ?_)); refine rkP ?_ ?_ <;> (intro hq; try (have hq' := hq; simp only [hqs] at hq'))) | refine stp ?_ | refine ifT ?_ | refine ifF ?_ | (refine ifQ ?_ ?_ <;> (try (intro hn))) | (refine ifB ?_ ?_ <;> (intro hq; try (have hq' := hq; simp only [hqs] at hq'))))
            exact ⟨(i + 1, true, _, _), _, by dsimp only; omega, ⟨by dsimp only; omega, hes.symm⟩, .refl, by exact frA⟩
        | true =>
          haveI : PC Try.prog 13 [.p (.v (.string (strOf (L.getD (i : Int).toNat default).1)))] True (.p (.b true)) := ⟨fun _ => f3⟩
          as_aux_lemma =>
            repeat' (first | refine rnC ?_ | refine rnSB ?_ | refine rnG ?_ | refine rnU ?_ | ((fail_if_success (refine rnKn ?_)); refine rnP ?_ ?_ <;> (intro hq; try (have hq' := hq; simp only [hqs] at hq'))) | refine rkC ?_ | refine rkSB ?_ | refine rkF ?_ | refine rkU ?_ | ((fail_if_success (refine rkKn ?_)); refine rkP ?_ ?_ <;> (intro hq; try (have hq' := hq; simp only [hqs] at hq'))) | refine stp ?_ | refine ifT ?_ | refine ifF ?_ | (refine ifQ ?_ ?_ <;> (try (intro hn))) | (refine ifB ?_ ?_ <;> (intro hq; try (have hq' := hq; simp only [hqs] at hq'))))
            exact ⟨(i + 1, sm, _, _), _, by dsimp only; omega, ⟨by dsimp only; omega, hes.symm⟩, .refl, by exact frA⟩
    · have d1 : decide ((i : Int) < (L.length : Int)) = false := decide_eq_false (by omega)
      obtain rfl : i = L.length := by omega
      rw [List.take_length] at hq
      rw [← hq] at law
      clear hq hQs hQ0 hLin
      as_aux_lemma =>
        repeat' (first | refine rnC ?_ | refine rnSB ?_ | refine rnG ?_ | refine rnU ?_ | ((fail_if_success (refine rnKn ?_)); refine rnP ?_ ?_ <;> (intro hq; try (have hq' := hq; simp only [hqs] at hq'))) | refine rkC ?_ | refine rkSB ?_ | refine rkF ?_ | refine rkU ?_ | ((fail_if_success (refine rkKn ?_)); refine rkP ?_ ?_ <;> (intro hq; try (have hq' := hq; simp only [hqs] at hq'))) | refine stp ?_ | refine ifT ?_ | refine ifF ?_ | (refine ifQ ?_ ?_ <;> (try (intro hn))) | (refine ifB ?_ ?_ <;> (intro hq; try (have hq' := hq; simp only [hqs] at hq'))))
        exact rt1 rfl rfl finS_p (rb law.symm)
instance bucketSame_i {a b : List Kd} {ex ey : Bool} : PC Try.prog 3 [.p (.sl 10 (a.map kR) ex), .p (.sl 10 (b.map kR) ey)] (a.length ≤ 9223372036854775807 ∧ b.length ≤ 9223372036854775807 ∧ (∀ k ∈ a, KdI k) ∧ ∀ k ∈ b, KdI k) (.p (.b true)) := ⟨fun h => bucketSame_w a b ex ey h.1 h.2.1 h.2.2.1 h.2.2.2⟩
end Go.Proofs.Ytbfjcohocedoaaa.Wi
namespace Go.Proofs.Ytbfjcohocedoaaa.Wi
open Go Go.RowKit Go.Aw Go.Aw.Cart Go.Proofs.Ytbfjcohocedoaaa.Ca
set_option linter.unusedVariables false
set_option linter.unusedSimpArgs false
theorem bucketSame_a (a b : List Kd) (h : a.length ≤ maxLen ∧ ∀ k ∈ a, KdI k) (k : b.length ≤ maxLen ∧ ∀ k ∈ b, KdI k) : PCall Try.prog 3 [argAV false [.sl 10 (a.map fun k => kR k) false], argAV false [.sl 10 (b.map fun k => kR k) false]] (.p (.b true)) := bucketSame_w a b false false h.1 k.1 h.2 k.2
end Go.Proofs.Ytbfjcohocedoaaa.Wi
