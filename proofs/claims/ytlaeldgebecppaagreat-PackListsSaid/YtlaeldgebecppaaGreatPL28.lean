/- the reference's reader: its end, small numbers, whole numbers, texts, vectors -/
import Derived.Test.YtlaeldgebecppaaGreatPL27
import Derived.Test.YtlaeldgebecppaaGreatPL24
namespace Go.Proofs.YtlaeldgebecppaaGreat.Wi
open Go Go.RowKit Go.Aw Go.Aw.Cart Go.Proofs.YtlaeldgebecppaaGreat.Ca
set_option linter.unusedVariables false
set_option linter.unusedSimpArgs false
set_option maxRecDepth 8000
set_option maxHeartbeats 4000000
namespace P2
theorem rnC {C : Ctx} {ops : Array Oper} {o : Oper} {rest : List Oper} {K : St → Prop} {σ : St} {e : Eff} {ro : Nat → Bool} {d : Nat} (hk : RunN C ops rest K (e.app (some d) σ)) (hg : Guard ops σ o true := by first | exact gd_n rfl rfl | exact gd_t rfl rfl rfl (by assumption) | exact gd_t rfl rfl rfl rfl) (hd : o.dst = some d := by rfl) (h : LOp C o σ e ro := by exact W6.lopC) : RunN C ops (o :: rest) K σ := rn_any hg hd h hk
end P2
section
open P2
theorem rfint_o (n : Nat) (b : List Nat) (r : RS) (hr : RfOk b r) : OCall Tryz.prog 161 [.o (.ptr 1000 n 0)] (memL [(1000, (n + 1, some (rfM b r)))]) (.p (.i (intS r).1)) (memL [(1000, (n + 1, some (rfM b (intS r).2)))]) := by
  refine ocall_of1 Tryz.func161 rfl (fun w0 F S0 M0 => ?_)
  have hf := numS_fit hr.byte
  have eI : intS r = okS (unz (numS r).1) 0 (mustS (zOk (numS r).1) (numS r).2) := rfl
  rw [eI]
  haveI b1 : OC Tryz.prog 121 [.o (.ptr 1000 n 0)] [(1000, (n + 1, some (rfM b r)))] [] True (.p (.k .u64 ((numS r).1 : Int))) [(1000, (n + 1, some (rfM b (numS r).2)))] := ⟨fun _ => (rfnum_o n b r hr).one 1000⟩
  generalize numS r = q at hf b1 ⊢
  obtain ⟨x, r1⟩ := q
  dsimp only at hf b1 ⊢
  haveI m1 : ∀ is : Bool, OC Tryz.prog 122 [.o (.ptr 1000 n 0), .p (.b is)] [(1000, (n + 1, some (rfM b r1)))] [] True (.tup []) [(1000, (n + 1, some (rfM b (mustS is r1))))] := fun is => ⟨fun _ => (rmust_o n b r1 is).one 1000⟩
  have fin : ∀ r2 : RS, okS (unz x) 0 r2 = (if r2.2 = 0 then unz x else 0, r2) := fun _ => rfl
  rw [fin]
  have hmd : md .u64 = 18446744073709551616 := rfl
  have hK : x / 2 % md .u64 = x / 2 := by rw [hmd]; omega
  have hw : IntKind.i64.wrap ((x / 2 % md .u64 : Nat) : Int) = ((x / 2 : Nat) : Int) := by rw [hK]; exact IntWalk.i64_in _ (by omega)
  have hcn : -9223372036854775808 ≤ ((x / 2 : Nat) : Int) ∧ ((x / 2 : Nat) : Int) ≤ 9223372036854775807 := by omega
  have key : ∀ is : Bool, (mustS is r1).2 = 0 ∨ (mustS is r1).2 ≠ 0 := fun is => by by_cases q : (mustS is r1).2 = 0 <;> simp [q]
  unfold zOk
  by_cases he : x % 2 = 0
  · have d1 : decide ((x : Int) % 2 = 0) = true := decide_eq_true (by omega)
    have d5 : decide ((x : Int) % 2 = 1) = false := decide_eq_false (by omega)
    have eu : unz x = ((x / 2 : Nat) : Int) := by unfold unz; rw [if_neg (by omega)]
    rw [if_pos he, eu]
    by_cases hk : x / 2 ≤ 4611686018427387904
    · have d2 : decide (((x / 2 % md .u64 : Nat) : Int) ≤ 4611686018427387904) = true := decide_eq_true (by rw [hK]; omega)
      rw [decide_eq_true hk]
      rcases key true with hz | hz
      · have d3 : decide ((mustS true r1).2 ≠ 0) = false := decide_eq_false fun q => q hz
        rw [if_pos hz]
        as_aux_lemma =>
          repeat' (first | refine rnC ?_ | refine rnSB ?_ | refine rnG ?_ | refine rnU ?_ | ((fail_if_success (refine rnKn ?_)); refine rnP ?_ ?_ <;> (intro hq; try (have hq' := hq; simp only [hqs] at hq'))) | refine rkC ?_ | refine rkSB ?_ | refine rkF ?_ | refine rkU ?_ | ((fail_if_success (refine rkKn ?_)); refine rkP ?_ ?_ <;> (intro hq; try (have hq' := hq; simp only [hqs] at hq'))) | refine stp ?_ | refine ifT ?_ | refine ifF ?_ | (refine ifQ ?_ ?_ <;> (try (intro hn))) | (refine ifB ?_ ?_ <;> (intro hq; try (have hq' := hq; simp only [hqs] at hq'))))
          exact RetO.mk (ot1 rfl rfl finS_p rfl) ⟨.box finL_p, trivial⟩
      · have d3 : decide ((mustS true r1).2 ≠ 0) = true := decide_eq_true hz
        rw [if_neg hz]
        as_aux_lemma =>
          repeat' (first | refine rnC ?_ | refine rnSB ?_ | refine rnG ?_ | refine rnU ?_ | ((fail_if_success (refine rnKn ?_)); refine rnP ?_ ?_ <;> (intro hq; try (have hq' := hq; simp only [hqs] at hq'))) | refine rkC ?_ | refine rkSB ?_ | refine rkF ?_ | refine rkU ?_ | ((fail_if_success (refine rkKn ?_)); refine rkP ?_ ?_ <;> (intro hq; try (have hq' := hq; simp only [hqs] at hq'))) | refine stp ?_ | refine ifT ?_ | refine ifF ?_ | (refine ifQ ?_ ?_ <;> (try (intro hn))) | (refine ifB ?_ ?_ <;> (intro hq; try (have hq' := hq; simp only [hqs] at hq'))))
          exact RetO.mk (ot1 rfl rfl finS_p rfl) ⟨.box finL_p, trivial⟩
    · have d2 : decide (((x / 2 % md .u64 : Nat) : Int) ≤ 4611686018427387904) = false := decide_eq_false (by rw [hK]; omega)
      rw [decide_eq_false hk]
      rcases key false with hz | hz
      · have d3 : decide ((mustS false r1).2 ≠ 0) = false := decide_eq_false fun q => q hz
        rw [if_pos hz]
        as_aux_lemma =>
          repeat' (first | refine rnC ?_ | refine rnSB ?_ | refine rnG ?_ | refine rnU ?_ | ((fail_if_success (refine rnKn ?_)); refine rnP ?_ ?_ <;> (intro hq; try (have hq' := hq; simp only [hqs] at hq'))) | refine rkC ?_ | refine rkSB ?_ | refine rkF ?_ | refine rkU ?_ | ((fail_if_success (refine rkKn ?_)); refine rkP ?_ ?_ <;> (intro hq; try (have hq' := hq; simp only [hqs] at hq'))) | refine stp ?_ | refine ifT ?_ | refine ifF ?_ | (refine ifQ ?_ ?_ <;> (try (intro hn))) | (refine ifB ?_ ?_ <;> (intro hq; try (have hq' := hq; simp only [hqs] at hq'))))
          exact RetO.mk (ot1 rfl rfl finS_p rfl) ⟨.box finL_p, trivial⟩
      · have d3 : decide ((mustS false r1).2 ≠ 0) = true := decide_eq_true hz
        rw [if_neg hz]
        as_aux_lemma =>
          repeat' (first | refine rnC ?_ | refine rnSB ?_ | refine rnG ?_ | refine rnU ?_ | ((fail_if_success (refine rnKn ?_)); refine rnP ?_ ?_ <;> (intro hq; try (have hq' := hq; simp only [hqs] at hq'))) | refine rkC ?_ | refine rkSB ?_ | refine rkF ?_ | refine rkU ?_ | ((fail_if_success (refine rkKn ?_)); refine rkP ?_ ?_ <;> (intro hq; try (have hq' := hq; simp only [hqs] at hq'))) | refine stp ?_ | refine ifT ?_ | refine ifF ?_ | (refine ifQ ?_ ?_ <;> (try (intro hn))) | (refine ifB ?_ ?_ <;> (intro hq; try (have hq' := hq; simp only [hqs] at hq'))))
          exact RetO.mk (ot1 rfl rfl finS_p rfl) ⟨.box finL_p, trivial⟩
  · have d1 : decide ((x : Int) % 2 = 0) = false := decide_eq_false (by omega)
    have d5 : decide ((x : Int) % 2 = 1) = true := decide_eq_true (by omega)
    have eu : unz x = 0 - ((x / 2 : Nat) : Int) - 1 := by unfold unz; rw [if_pos (by omega)]; omega
    have e2 : decide (x / 2 < 4611686018427387904) = decide (((x / 2 % md .u64 : Nat) : Int) < 4611686018427387904) := decide_eq_decide.2 (by rw [hK]; omega)
    obtain ⟨r2, hr2⟩ : ∃ r2, r2 = mustS (decide (((x / 2 % md .u64 : Nat) : Int) < 4611686018427387904)) r1 := ⟨_, rfl⟩
    rw [if_neg he, e2, eu, ← hr2]
    haveI m2 : OC Tryz.prog 122 [.o (.ptr 1000 n 0), .p (.b (decide (((x / 2 % md .u64 : Nat) : Int) < 4611686018427387904)))] [(1000, (n + 1, some (rfM b r1)))] [] True (.tup []) [(1000, (n + 1, some (rfM b r2)))] := ⟨fun _ => by rw [hr2]; exact (rmust_o n b r1 _).one 1000⟩
    clear m1 hr2 e2 key eu
    by_cases hz : r2.2 = 0
    · have d3 : decide (r2.2 ≠ 0) = false := decide_eq_false fun q => q hz
      rw [if_pos hz]
      as_aux_lemma =>
        repeat' (first | refine rnC ?_ | refine rnSB ?_ | refine rnG ?_ | refine rnU ?_ | ((fail_if_success (refine rnKn ?_)); refine rnP ?_ ?_ <;> (intro hq; try (have hq' := hq; simp only [hqs] at hq'))) | refine rkC ?_ | refine rkSB ?_ | refine rkF ?_ | refine rkU ?_ | ((fail_if_success (refine rkKn ?_)); refine rkP ?_ ?_ <;> (intro hq; try (have hq' := hq; simp only [hqs] at hq'))) | refine stp ?_ | refine ifT ?_ | refine ifF ?_ | (refine ifQ ?_ ?_ <;> (try (intro hn))) | (refine ifB ?_ ?_ <;> (intro hq; try (have hq' := hq; simp only [hqs] at hq'))))
        exact RetO.mk (ot1 rfl rfl finS_p rfl) ⟨.box finL_p, trivial⟩
    · have d3 : decide (r2.2 ≠ 0) = true := decide_eq_true hz
      rw [if_neg hz]
      as_aux_lemma =>
        repeat' (first | refine rnC ?_ | refine rnSB ?_ | refine rnG ?_ | refine rnU ?_ | ((fail_if_success (refine rnKn ?_)); refine rnP ?_ ?_ <;> (intro hq; try (have hq' := hq; simp only [hqs] at hq'))) | refine rkC ?_ | refine rkSB ?_ | refine rkF ?_ | refine rkU ?_ | ((fail_if_success (refine rkKn ?_)); refine rkP ?_ ?_ <;> (intro hq; try (have hq' := hq; simp only [hqs] at hq'))) | refine stp ?_ | refine ifT ?_ | refine ifF ?_ | (refine ifQ ?_ ?_ <;> (try (intro hn))) | (refine ifB ?_ ?_ <;> (intro hq; try (have hq' := hq; simp only [hqs] at hq'))))
        exact RetO.mk (ot1 rfl rfl finS_p rfl) ⟨.box finL_p, trivial⟩
end
open W6
theorem rfend_o (n : Nat) (b : List Nat) (r : RS) (hr : RfOk b r) : OCall Tryz.prog 93 [.o (.ptr 1000 n 0)] (memL [(1000, (n + 1, some (rfM b r)))]) (.p (.i (endS r))) (memL [(1000, (n + 1, some (rfM b r)))]) := by
  refine ocall_of1 Tryz.func93 rfl (fun w0 F S0 M0 => ?_)
  unfold endS
  have hle := hr.suf.length_le
  by_cases h : r.2 = 0
  · have d1 : decide (r.2 = 0) = true := decide_eq_true h
    rw [if_neg (fun q => q h)]
    by_cases hl : 0 < r.1.length
    · have d2 : decide (atI b r < (b.length : Int)) = true := decide_eq_true (by unfold atI; omega)
      rw [if_pos hl]
      as_aux_lemma =>
        repeat' (first | refine rnC ?_ | refine rnSB ?_ | refine rnG ?_ | refine rnU ?_ | ((fail_if_success (refine rnKn ?_)); refine rnP ?_ ?_ <;> (intro hq; try (have hq' := hq; simp only [hqs] at hq'))) | refine rkC ?_ | refine rkSB ?_ | refine rkF ?_ | refine rkU ?_ | ((fail_if_success (refine rkKn ?_)); refine rkP ?_ ?_ <;> (intro hq; try (have hq' := hq; simp only [hqs] at hq'))) | refine stp ?_ | refine aws_draws [] mixed (by kernel_rfl) ?_ | refine ifT ?_ | refine ifF ?_ | (refine ifQ ?_ ?_ <;> (try (intro hn))) | (refine ifB ?_ ?_ <;> (intro hq; try (have hq' := hq; simp only [hqs] at hq'))))
        exact RetO.mk (ot1 rfl rfl finS_p rfl) ⟨.box finL_p, trivial⟩
    · have d2 : decide (atI b r < (b.length : Int)) = false := decide_eq_false (by unfold atI; omega)
      rw [if_neg hl]
      as_aux_lemma =>
        repeat' (first | refine rnC ?_ | refine rnSB ?_ | refine rnG ?_ | refine rnU ?_ | ((fail_if_success (refine rnKn ?_)); refine rnP ?_ ?_ <;> (intro hq; try (have hq' := hq; simp only [hqs] at hq'))) | refine rkC ?_ | refine rkSB ?_ | refine rkF ?_ | refine rkU ?_ | ((fail_if_success (refine rkKn ?_)); refine rkP ?_ ?_ <;> (intro hq; try (have hq' := hq; simp only [hqs] at hq'))) | refine stp ?_ | refine aws_draws [] mixed (by kernel_rfl) ?_ | refine ifT ?_ | refine ifF ?_ | (refine ifQ ?_ ?_ <;> (try (intro hn))) | (refine ifB ?_ ?_ <;> (intro hq; try (have hq' := hq; simp only [hqs] at hq'))))
        exact RetO.mk (ot1 rfl rfl finS_p (ri h.symm)) ⟨.box finL_p, trivial⟩
  · have d1 : decide (r.2 = 0) = false := decide_eq_false h
    rw [if_pos h]
    as_aux_lemma =>
      repeat' (first | refine rnC ?_ | refine rnSB ?_ | refine rnG ?_ | refine rnU ?_ | ((fail_if_success (refine rnKn ?_)); refine rnP ?_ ?_ <;> (intro hq; try (have hq' := hq; simp only [hqs] at hq'))) | refine rkC ?_ | refine rkSB ?_ | refine rkF ?_ | refine rkU ?_ | ((fail_if_success (refine rkKn ?_)); refine rkP ?_ ?_ <;> (intro hq; try (have hq' := hq; simp only [hqs] at hq'))) | refine stp ?_ | refine aws_draws [] mixed (by kernel_rfl) ?_ | refine ifT ?_ | refine ifF ?_ | (refine ifQ ?_ ?_ <;> (try (intro hn))) | (refine ifB ?_ ?_ <;> (intro hq; try (have hq' := hq; simp only [hqs] at hq'))))
      exact RetO.mk (ot1 rfl rfl finS_p rfl) ⟨.box finL_p, trivial⟩
instance rfend_i {c g n : Nat} {b : List Nat} {r : RS} : OC Tryz.prog 93 [.o (.ptr c g 0)] [(c, (n, some (rfM b r)))] [] (n = g + 1 ∧ RfOk b r) (.p (.i (endS r))) [(c, (n, some (rfM b r)))] := ⟨fun h => by obtain ⟨rfl, h⟩ := h; exact (rfend_o g b r h).one c⟩
theorem rfsmall_o (n : Nat) (b : List Nat) (r : RS) (most : Int) (h0 : 0 ≤ most) (hm : most ≤ 9223372036854775807) (hr : RfOk b r) : OCall Tryz.prog 90 [.o (.ptr 1000 n 0), .p (.i most)] (memL [(1000, (n + 1, some (rfM b r)))]) (.p (.i (smallS most r).1)) (memL [(1000, (n + 1, some (rfM b (smallS most r).2)))]) := by
  refine ocall_of1 Tryz.func90 rfl (fun w0 F S0 M0 => ?_)
  have hf := numS_fit hr.byte
  have eI : smallS most r = okS (((numS r).1 : Nat) : Int) 0 (mustS (decide (0 ≤ most) && decide (((numS r).1 : Int) ≤ most)) (numS r).2) := rfl
  rw [eI, decide_eq_true h0, Bool.true_and]
  haveI b1 : OC Tryz.prog 121 [.o (.ptr 1000 n 0)] [(1000, (n + 1, some (rfM b r)))] [] True (.p (.k .u64 ((numS r).1 : Int))) [(1000, (n + 1, some (rfM b (numS r).2)))] := ⟨fun _ => (rfnum_o n b r hr).one 1000⟩
  generalize numS r = q at hf b1 ⊢
  obtain ⟨x, r1⟩ := q
  dsimp only at hf b1 ⊢
  haveI m1 : OC Tryz.prog 122 [.o (.ptr 1000 n 0), .p (.b (decide (0 ≤ most)))] [(1000, (n + 1, some (rfM b r1)))] [] True (.tup []) [(1000, (n + 1, some (rfM b r1)))] := ⟨fun _ => by have := (rmust_o n b r1 (decide (0 ≤ most))).one 1000; rw [decide_eq_true h0, must_t] at this; rw [decide_eq_true h0]; exact this⟩
  haveI m2 : OC Tryz.prog 122 [.o (.ptr 1000 n 0), .p (.b (decide ((x : Int) ≤ most)))] [(1000, (n + 1, some (rfM b r1)))] [] True (.tup []) [(1000, (n + 1, some (rfM b (mustS (decide ((x : Int) ≤ most)) r1))))] := ⟨fun _ => (rmust_o n b r1 _).one 1000⟩
  have d1 : decide (most < 0) = false := decide_eq_false (by omega)
  have hw : IntKind.u64.wrap most = most := IntWalk.u64_in _ (by omega)
  have fin : ∀ r2 : RS, okS ((x : Nat) : Int) 0 r2 = (if r2.2 = 0 then ((x : Nat) : Int) else 0, r2) := fun _ => rfl
  rw [fin]
  by_cases hz : (mustS (decide ((x : Int) ≤ most)) r1).2 = 0
  · have d2 : decide ((mustS (decide ((x : Int) ≤ most)) r1).2 ≠ 0) = false := decide_eq_false fun q => q hz
    rw [if_pos hz]
    have hle : (x : Int) ≤ most := by
      by_cases q : (x : Int) ≤ most
      · exact q
      · exfalso
        rw [decide_eq_false q] at hz
        unfold mustS at hz
        by_cases k : r1.2 = 0
        · rw [if_pos ⟨k, rfl⟩] at hz; exact absurd (show (3 : Int) = 0 from hz) (by decide)
        · rw [if_neg fun y => k y.1] at hz; exact k hz
    have hw2 : IntKind.i64.wrap ((x : Nat) : Int) = ((x : Nat) : Int) := IntWalk.i64_in _ (by omega)
    generalize mustS (decide ((x : Int) ≤ most)) r1 = r2 at *
    as_aux_lemma =>
      repeat' (first | refine rnC ?_ | refine rnSB ?_ | refine rnG ?_ | refine rnU ?_ | ((fail_if_success (refine rnKn ?_)); refine rnP ?_ ?_ <;> (intro hq; try (have hq' := hq; simp only [hqs] at hq'))) | refine rkC ?_ | refine rkSB ?_ | refine rkF ?_ | refine rkU ?_ | ((fail_if_success (refine rkKn ?_)); refine rkP ?_ ?_ <;> (intro hq; try (have hq' := hq; simp only [hqs] at hq'))) | refine stp ?_ | refine ifT ?_ | refine ifF ?_ | (refine ifQ ?_ ?_ <;> (try (intro hn))) | (refine ifB ?_ ?_ <;> (intro hq; try (have hq' := hq; simp only [hqs] at hq'))))
      exact RetO.mk (ot1 rfl rfl finS_p rfl) ⟨.box finL_p, trivial⟩
  · have d2 : decide ((mustS (decide ((x : Int) ≤ most)) r1).2 ≠ 0) = true := decide_eq_true hz
    rw [if_neg hz]
    generalize mustS (decide ((x : Int) ≤ most)) r1 = r2 at *
    as_aux_lemma =>
      repeat' (first | refine rnC ?_ | refine rnSB ?_ | refine rnG ?_ | refine rnU ?_ | ((fail_if_success (refine rnKn ?_)); refine rnP ?_ ?_ <;> (intro hq; try (have hq' := hq; simp only [hqs] at hq'))) | refine rkC ?_ | refine rkSB ?_ | refine rkF ?_ | refine rkU ?_ | ((fail_if_success (refine rkKn ?_)); refine rkP ?_ ?_ <;> (intro hq; try (have hq' := hq; simp only [hqs] at hq'))) | refine stp ?_ | refine ifT ?_ | refine ifF ?_ | (refine ifQ ?_ ?_ <;> (try (intro hn))) | (refine ifB ?_ ?_ <;> (intro hq; try (have hq' := hq; simp only [hqs] at hq'))))
      exact RetO.mk (ot1 rfl rfl finS_p rfl) ⟨.box finL_p, trivial⟩
theorem rftext_o (n : Nat) (b : List Nat) (r : RS) (most : Int) (h0 : 0 ≤ most) (hm : most ≤ 1000000000) (hr : RfOk b r) : OCall Tryz.prog 91 [.o (.ptr 1000 n 0), .p (.i most)] (memL [(1000, (n + 1, some (rfM b r)))]) (.p (.sl 1 ((textS most r).1.map bR) false)) (memL [(1000, (n + 1, some (rfM b (textS most r).2)))]) := by
  refine ocall_of1 Tryz.func91 rfl (fun w0 F S0 M0 => ?_)
  obtain ⟨k, hk⟩ := small_nat most r
  have hkm : (k : Int) ≤ most := by rw [← hk]; exact small_le h0 r
  have e : textS most r = takeS k (smallS most r).2 := by
    show takeS (smallS most r).1.toNat (smallS most r).2 = _
    rw [hk, Int.toNat_natCast]
  rw [e]
  have h2 := (par_small most).rf hr
  haveI b1 : OC Tryz.prog 90 [.o (.ptr 1000 n 0), .p (.i most)] [(1000, (n + 1, some (rfM b r)))] [] True (.p (.i (k : Int))) [(1000, (n + 1, some (rfM b (smallS most r).2)))] := ⟨fun _ => by rw [← hk]; exact (rfsmall_o n b r most h0 (by omega) hr).one 1000⟩
  haveI b2 : OC Tryz.prog 159 [.o (.ptr 1000 n 0), .p (.i (k : Int))] [(1000, (n + 1, some (rfM b (smallS most r).2)))] [] True (.p (.sl 1 ((takeS k (smallS most r).2).1.map bR) false)) [(1000, (n + 1, some (rfM b (takeS k (smallS most r).2).2)))] := ⟨fun _ => (rbytes_o n b _ k h2.suf h2.len (by omega)).one 1000⟩
  generalize (smallS most r).2 = r2 at *
  as_aux_lemma =>
    repeat' (first | refine rnC ?_ | refine rnSB ?_ | refine rnG ?_ | refine rnU ?_ | ((fail_if_success (refine rnKn ?_)); refine rnP ?_ ?_ <;> (intro hq; try (have hq' := hq; simp only [hqs] at hq'))) | refine rkC ?_ | refine rkSB ?_ | refine rkF ?_ | refine rkU ?_ | ((fail_if_success (refine rkKn ?_)); refine rkP ?_ ?_ <;> (intro hq; try (have hq' := hq; simp only [hqs] at hq'))) | refine stp ?_ | refine ifT ?_ | refine ifF ?_ | (refine ifQ ?_ ?_ <;> (try (intro hn))) | (refine ifB ?_ ?_ <;> (intro hq; try (have hq' := hq; simp only [hqs] at hq'))))
    exact RetO.mk (ot1 rfl rfl finS_p rfl) ⟨.box finL_p, trivial⟩
theorem rfvec_o (n : Nat) (b : List Nat) (r : RS) (hr : RfOk b r) : OCall Tryz.prog 160 [.o (.ptr 1000 n 0)] (memL [(1000, (n + 1, some (rfM b r)))]) (vV (vecS r).1) (memL [(1000, (n + 1, some (rfM b (vecS r).2)))]) := by
  refine ocall_of1 Tryz.func160 rfl (fun w0 F S0 M0 => ?_)
  have eV : vecS r = (if (allS numZ 8 r).2.2 = 0 then (allS numZ 8 r).1 else zeroV, (allS numZ 8 r).2) := rfl
  rw [eV]
  clear eV
  repeat' (first | refine rnC ?_ | refine rnSB ?_ | refine rnG ?_ | refine rnU ?_ | ((fail_if_success (refine rnKn ?_)); refine rnP ?_ ?_ <;> (intro hq; try (have hq' := hq; simp only [hqs] at hq'))) | refine rkC ?_ | refine rkSB ?_ | refine rkF ?_ | refine rkU ?_ | ((fail_if_success (refine rkKn ?_)); refine rkP ?_ ?_ <;> (intro hq; try (have hq' := hq; simp only [hqs] at hq'))) | refine stp ?_ | refine ifT ?_ | refine ifF ?_ | (refine ifQ ?_ ?_ <;> (try (intro hn))) | (refine ifB ?_ ?_ <;> (intro hq; try (have hq' := hq; simp only [hqs] at hq'))))
  refine aws_loopS [4, 5, 6, 7, 8, 9, 10, 11, 12] [1000, 3] (fun (x : Nat × List Int × RS) => [(4, .p (.i x.1))]) (fun x => [(1000, (n + 1, some (rfM b x.2.2))), (3, (1, some (.box 100 (x.2.1.map fun n => AC.p (.k .u64 n)))))])
    (fun x => x.1 ≤ 8 ∧ x.2.1 = (allS numZ x.1 r).1 ++ List.replicate (8 - x.1) 0 ∧ x.2.2 = (allS numZ x.1 r).2) (fun x => 8 - x.1) (0, zeroV, r) ⟨Nat.zero_le _, rfl, rfl⟩ (by exact knA) (by exact knA) ?_
  rintro ⟨i, u, r1⟩ β γ ⟨hi, hu, h1⟩
  dsimp only at hi hu h1 ⊢
  have la := all_len numZ i r
  have lu : u.length = 8 := by rw [hu, List.length_append, List.length_replicate, la]; omega
  by_cases hi8 : i < 8
  · have d1 : decide ((i : Int) < 8) = true := decide_eq_true (by omega)
    have hr1 : RfOk b r1 := by rw [h1]; exact (par_all par_numZ i).rf hr
    haveI b1 : OC Tryz.prog 121 [.o (.ptr 1000 n 0)] [(1000, (n + 1, some (rfM b r1)))] [] True (.p (.k .u64 ((numS r1).1 : Int))) [(1000, (n + 1, some (rfM b (numS r1).2)))] := ⟨fun _ => (rfnum_o n b r1 hr1).one 1000⟩
    have hs1 : u.set (i : Int).toNat ((numS r1).1 : Int) = (allS numZ (i + 1) r).1 ++ List.replicate (8 - (i + 1)) 0 := by
      rw [Int.toNat_natCast, hu, show 8 - i = (8 - (i + 1)) + 1 by omega]
      have := set_rep (allS numZ i r).1 (8 - (i + 1)) ((numS r1).1 : Int) 0
      rw [la] at this
      rw [this, h1]
      rfl
    have hs2 : (numS r1).2 = (allS numZ (i + 1) r).2 := by rw [h1]; rfl
    clear hu h1
    as_aux_lemma =>
      repeat' (first | refine rnC ?_ | refine rnSB ?_ | refine rnG ?_ | refine rnU ?_ | ((fail_if_success (refine rnKn ?_)); refine rnP ?_ ?_ <;> (intro hq; try (have hq' := hq; simp only [hqs] at hq'))) | refine rkC ?_ | refine rkSB ?_ | refine rkF ?_ | refine rkU ?_ | ((fail_if_success (refine rkKn ?_)); refine rkP ?_ ?_ <;> (intro hq; try (have hq' := hq; simp only [hqs] at hq'))) | refine stp ?_ | refine ifT ?_ | refine ifF ?_ | (refine ifQ ?_ ?_ <;> (try (intro hn))) | (refine ifB ?_ ?_ <;> (intro hq; try (have hq' := hq; simp only [hqs] at hq'))))
      exact ⟨(i + 1, u.set (i : Int).toNat ((numS r1).1 : Int), (numS r1).2), _, by dsimp only; omega, ⟨by dsimp only; omega, hs1, hs2⟩, .refl, by exact frA⟩
  · have d1 : decide ((i : Int) < 8) = false := decide_eq_false (by omega)
    obtain rfl : i = 8 := by omega
    rw [← h1]
    have hu' : u = (allS numZ 8 r).1 := by rw [hu]; simp
    rw [← hu']
    by_cases hz : r1.2 = 0
    · have d2 : decide (r1.2 ≠ 0) = false := decide_eq_false fun q => q hz
      rw [if_pos hz]
      clear hu hu' h1 hz
      as_aux_lemma =>
        repeat' (first | refine rnC ?_ | refine rnSB ?_ | refine rnG ?_ | refine rnU ?_ | ((fail_if_success (refine rnKn ?_)); refine rnP ?_ ?_ <;> (intro hq; try (have hq' := hq; simp only [hqs] at hq'))) | refine rkC ?_ | refine rkSB ?_ | refine rkF ?_ | refine rkU ?_ | ((fail_if_success (refine rkKn ?_)); refine rkP ?_ ?_ <;> (intro hq; try (have hq' := hq; simp only [hqs] at hq'))) | refine stp ?_ | refine ifT ?_ | refine ifF ?_ | (refine ifQ ?_ ?_ <;> (try (intro hn))) | (refine ifB ?_ ?_ <;> (intro hq; try (have hq' := hq; simp only [hqs] at hq'))))
        exact RetO.mk (oc1 rfl rfl rfl rfl rfl (by rw [List.length_map]; exact lu) finL_p rfl) ⟨.box finL_p, trivial⟩
    · have d2 : decide (r1.2 ≠ 0) = true := decide_eq_true hz
      rw [if_neg hz]
      clear hu hu' h1 hz
      as_aux_lemma =>
        repeat' (first | refine rnC ?_ | refine rnSB ?_ | refine rnG ?_ | refine rnU ?_ | ((fail_if_success (refine rnKn ?_)); refine rnP ?_ ?_ <;> (intro hq; try (have hq' := hq; simp only [hqs] at hq'))) | refine rkC ?_ | refine rkSB ?_ | refine rkF ?_ | refine rkU ?_ | ((fail_if_success (refine rkKn ?_)); refine rkP ?_ ?_ <;> (intro hq; try (have hq' := hq; simp only [hqs] at hq'))) | refine stp ?_ | refine ifT ?_ | refine ifF ?_ | (refine ifQ ?_ ?_ <;> (try (intro hn))) | (refine ifB ?_ ?_ <;> (intro hq; try (have hq' := hq; simp only [hqs] at hq'))))
        exact RetO.mk (oc1 rfl rfl rfl rfl rfl rfl finL_p rfl) ⟨.box finL_p, trivial⟩
end Go.Proofs.YtlaeldgebecppaaGreat.Wi
