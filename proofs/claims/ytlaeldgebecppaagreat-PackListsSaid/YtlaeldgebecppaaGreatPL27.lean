/- the reference's reader: faults, bytes, numbers -/
import Derived.Test.YtlaeldgebecppaaGreatPL19
import Derived.Test.YtlaeldgebecppaaGreatPL16
import Derived.Test.YtlaeldgebecppaaGreatPL24
namespace Go.Proofs.YtlaeldgebecppaaGreat.Wi
open Go Go.RowKit Go.Aw
set_option linter.unusedVariables false
set_option linter.unusedSimpArgs false
set_option maxRecDepth 8000
set_option maxHeartbeats 4000000
/-- how far a reader of b is -/
def atI (b : List Nat) (r : RS) : Int := (b.length : Int) - (r.1.length : Int)
theorem atI_must (b : List Nat) (is : Bool) (r : RS) : atI b (mustS is r) = atI b r := by unfold atI; rw [must_1]
abbrev rfM (b : List Nat) (r : RS) : MO := .box 151 [.p (.sl 1 (b.map bR) false), .p (.i (atI b r)), .p (.i r.2)]
theorem suf_drop {b : List Nat} {r : RS} (h : r.1 <:+ b) : r.1 = b.drop (b.length - r.1.length) := List.suffix_iff_eq_drop.1 h
theorem suf_at {b : List Nat} {r : RS} (h : r.1 <:+ b) : ∃ k : Nat, k ≤ b.length ∧ atI b r = k ∧ r.1 = b.drop k := by
  have := h.length_le
  exact ⟨b.length - r.1.length, by omega, by unfold atI; omega, suf_drop h⟩
namespace P1
theorem lopC {C : Ctx} {o : Oper} {σ : St} {e : Eff} {ro : Nat → Bool} (h : LOp C o σ e ro := by
    first | exact W4.lopC | fail) : LOp C o σ e ro := h
section steps
variable {C : Ctx} {ops : Array Oper} {o : Oper} {rest : List Oper} {K : St → Prop} {σ : St} {e : Eff} {ro : Nat → Bool} {W : List (Nat × Nat)} {i : Nat}
theorem rnC {d : Nat} (hk : RunN C ops rest K (e.app (some d) σ)) (hg : Guard ops σ o true := by first | exact gd_n rfl rfl | exact gd_t rfl rfl rfl rfl | exact gd_t rfl rfl rfl (by assumption)) (hd : o.dst = some d := by rfl) (h : LOp C o σ e ro := by exact lopC) : RunN C ops (o :: rest) K σ := rn_any hg hd h hk
theorem rkC {d : Nat} (hk : RunK C ops W (i + 1) rest K (e.app (some d) σ)) (hg : Guard ops σ o true := by first | exact gd_n rfl rfl | exact gd_t rfl rfl rfl rfl | exact gd_t rfl rfl rfl (by assumption)) (hd' : o.dst = some d := by rfl) (hd : dOk C o.dst = true := by rfl) (h : LOp C o σ e ro := by exact lopC)
    (hro : ∀ x, ro x = true → okObj ops W i x = true := by first | exact fun _ => ro_none | exact ro_one rfl | exact ro_one (by kernel_rfl) | exact ro_kIn (by decide)) (hob : ∀ p ∈ e.obj, (i, p.1) ∈ W := by first | exact ob_none | exact ob_one (by decide) | decide) : RunK C ops W i (o :: rest) K σ := rk_wr hg hd' hd h hro hob hk
end steps
end P1
open P1
theorem rmust_o (n : Nat) (b : List Nat) (r : RS) (is : Bool) : OCall Tryz.prog 122 [.o (.ptr 1000 n 0), .p (.b is)] (memL [(1000, (n + 1, some (rfM b r)))]) (.tup []) (memL [(1000, (n + 1, some (rfM b (mustS is r))))]) := by
  refine ocall_of1 Tryz.func122 rfl (fun w0 F S0 M0 => ?_)
  unfold rfM
  rw [atI_must]
  by_cases h : r.2 = 0
  · have d1 : decide (r.2 = 0) = true := decide_eq_true h
    cases is with
    | true =>
      rw [show (mustS true r).2 = r.2 by unfold mustS; rw [if_neg (by simp)]]
      have d2 : (!true) = false := rfl
      as_aux_lemma =>
        repeat' (first | refine rnC ?_ | refine rnSB ?_ | refine rnG ?_ | refine rnU ?_ | ((fail_if_success (refine rnKn ?_)); refine rnP ?_ ?_ <;> (intro hq; try (have hq' := hq; simp only [hqs] at hq'))) | refine rkC ?_ | refine rkSB ?_ | refine rkF ?_ | refine rkU ?_ | ((fail_if_success (refine rkKn ?_)); refine rkP ?_ ?_ <;> (intro hq; try (have hq' := hq; simp only [hqs] at hq'))) | refine stp ?_ | refine aws_draws [] mixed (by kernel_rfl) ?_ | refine ifT ?_ | refine ifF ?_ | (refine ifQ ?_ ?_ <;> (try (intro hn))) | (refine ifB ?_ ?_ <;> (intro hq; try (have hq' := hq; simp only [hqs] at hq'))))
        exact RetO.mk (res0 rfl rfl) ⟨.box finL_p, trivial⟩
    | false =>
      rw [show (mustS false r).2 = 3 by unfold mustS; rw [if_pos ⟨h, rfl⟩]]
      have d2 : (!false) = true := rfl
      as_aux_lemma =>
        repeat' (first | refine rnC ?_ | refine rnSB ?_ | refine rnG ?_ | refine rnU ?_ | ((fail_if_success (refine rnKn ?_)); refine rnP ?_ ?_ <;> (intro hq; try (have hq' := hq; simp only [hqs] at hq'))) | refine rkC ?_ | refine rkSB ?_ | refine rkF ?_ | refine rkU ?_ | ((fail_if_success (refine rkKn ?_)); refine rkP ?_ ?_ <;> (intro hq; try (have hq' := hq; simp only [hqs] at hq'))) | refine stp ?_ | refine aws_draws [] mixed (by kernel_rfl) ?_ | refine ifT ?_ | refine ifF ?_ | (refine ifQ ?_ ?_ <;> (try (intro hn))) | (refine ifB ?_ ?_ <;> (intro hq; try (have hq' := hq; simp only [hqs] at hq'))))
        exact RetO.mk (res0 rfl rfl) ⟨.box finL_p, trivial⟩
  · have d1 : decide (r.2 = 0) = false := decide_eq_false h
    rw [show (mustS is r).2 = r.2 by unfold mustS; rw [if_neg fun q => h q.1]]
    as_aux_lemma =>
      repeat' (first | refine rnC ?_ | refine rnSB ?_ | refine rnG ?_ | refine rnU ?_ | ((fail_if_success (refine rnKn ?_)); refine rnP ?_ ?_ <;> (intro hq; try (have hq' := hq; simp only [hqs] at hq'))) | refine rkC ?_ | refine rkSB ?_ | refine rkF ?_ | refine rkU ?_ | ((fail_if_success (refine rkKn ?_)); refine rkP ?_ ?_ <;> (intro hq; try (have hq' := hq; simp only [hqs] at hq'))) | refine stp ?_ | refine aws_draws [] mixed (by kernel_rfl) ?_ | refine ifT ?_ | refine ifF ?_ | (refine ifQ ?_ ?_ <;> (try (intro hn))) | (refine ifB ?_ ?_ <;> (intro hq; try (have hq' := hq; simp only [hqs] at hq'))))
      exact RetO.mk (res0 rfl rfl) ⟨.box finL_p, trivial⟩
theorem rbytes_o (n : Nat) (b : List Nat) (r : RS) (k : Nat) (hs : r.1 <:+ b) (hl : b.length ≤ 1000000000) (hk9 : k ≤ 1000000000) : OCall Tryz.prog 159 [.o (.ptr 1000 n 0), .p (.i (k : Int))] (memL [(1000, (n + 1, some (rfM b r)))]) (.p (.sl 1 ((takeS k r).1.map bR) false)) (memL [(1000, (n + 1, some (rfM b (takeS k r).2)))]) := by
  refine ocall_of1 Tryz.func159 rfl (fun w0 F S0 M0 => ?_)
  obtain ⟨k0, hk0, ha, hd⟩ := suf_at hs
  have hrl : r.1.length = b.length - k0 := by rw [hd, List.length_drop]
  unfold rfM
  by_cases h : r.2 = 0
  · have d1 : decide (r.2 = 0) = true := decide_eq_true h
    by_cases hk : r.1.length < k
    · have e : takeS k r = ([], (r.1, 8)) := by unfold takeS; rw [if_neg fun q => q h, if_pos hk]
      rw [e, show atI b (r.1, 8) = atI b r from rfl, ha]
      have d2 : decide ((b.length : Int) - (k0 : Int) < (k : Int)) = true := decide_eq_true (by omega)
      as_aux_lemma =>
        repeat' (first | refine rnC ?_ | refine rnSB ?_ | refine rnG ?_ | refine rnU ?_ | ((fail_if_success (refine rnKn ?_)); refine rnP ?_ ?_ <;> (intro hq; try (have hq' := hq; simp only [hqs] at hq'))) | refine rkC ?_ | refine rkSB ?_ | refine rkF ?_ | refine rkU ?_ | ((fail_if_success (refine rkKn ?_)); refine rkP ?_ ?_ <;> (intro hq; try (have hq' := hq; simp only [hqs] at hq'))) | refine stp ?_ | refine aws_draws [] mixed (by kernel_rfl) ?_ | refine ifT ?_ | refine ifF ?_ | (refine ifQ ?_ ?_ <;> (try (intro hn))) | (refine ifB ?_ ?_ <;> (intro hq; try (have hq' := hq; simp only [hqs] at hq'))))
        exact RetO.mk (ot1 rfl rfl (.one .nil) rfl) ⟨.box finL_p, trivial⟩
    · have e : takeS k r = ((b.drop ((k0 : Int) + k - k).toNat).take (((k0 : Int) + k).toNat - ((k0 : Int) + k - k).toNat), (r.1.drop k, r.2)) := by
        unfold takeS
        rw [if_neg fun q => q h, if_neg hk, hd, h, show ((k0 : Int) + k - k).toNat = k0 by omega, show ((k0 : Int) + k).toNat - k0 = k by omega]
      have e2 : atI b (r.1.drop k, r.2) = (k0 : Int) + k := by unfold atI; dsimp only; rw [List.length_drop]; omega
      rw [e, e2, ha]
      have d2 : decide ((b.length : Int) - (k0 : Int) < (k : Int)) = false := decide_eq_false (by omega)
      have d3 : decide (r.2 ≠ 0) = false := decide_eq_false fun q => q h
      as_aux_lemma =>
        repeat' (first | refine rnC ?_ | refine rnSB ?_ | refine rnG ?_ | refine rnU ?_ | ((fail_if_success (refine rnKn ?_)); refine rnP ?_ ?_ <;> (intro hq; try (have hq' := hq; simp only [hqs] at hq'))) | refine rkC ?_ | refine rkSB ?_ | refine rkF ?_ | refine rkU ?_ | ((fail_if_success (refine rkKn ?_)); refine rkP ?_ ?_ <;> (intro hq; try (have hq' := hq; simp only [hqs] at hq'))) | refine stp ?_ | refine aws_draws [] mixed (by kernel_rfl) ?_ | refine ifT ?_ | refine ifF ?_ | (refine ifQ ?_ ?_ <;> (try (intro hn))) | (refine ifB ?_ ?_ <;> (intro hq; try (have hq' := hq; simp only [hqs] at hq'))))
        exact RetO.mk (ot1 rfl rfl finS_p rfl) ⟨.box finL_p, trivial⟩
  · have d1 : decide (r.2 = 0) = false := decide_eq_false h
    have d3 : decide (r.2 ≠ 0) = true := decide_eq_true h
    rw [take_bad h]
    as_aux_lemma =>
      repeat' (first | refine rnC ?_ | refine rnSB ?_ | refine rnG ?_ | refine rnU ?_ | ((fail_if_success (refine rnKn ?_)); refine rnP ?_ ?_ <;> (intro hq; try (have hq' := hq; simp only [hqs] at hq'))) | refine rkC ?_ | refine rkSB ?_ | refine rkF ?_ | refine rkU ?_ | ((fail_if_success (refine rkKn ?_)); refine rkP ?_ ?_ <;> (intro hq; try (have hq' := hq; simp only [hqs] at hq'))) | refine stp ?_ | refine aws_draws [] mixed (by kernel_rfl) ?_ | refine ifT ?_ | refine ifF ?_ | (refine ifQ ?_ ?_ <;> (try (intro hn))) | (refine ifB ?_ ?_ <;> (intro hq; try (have hq' := hq; simp only [hqs] at hq'))))
      exact RetO.mk (ot1 rfl rfl (.one .nil) rfl) ⟨.box finL_p, trivial⟩
/-- a reader of b that is no more than programs can hold -/
structure RfOk (b : List Nat) (r : RS) : Prop where
  byte : ∀ c ∈ r.1, c < 256
  suf : r.1 <:+ b
  len : b.length ≤ 1000000000
theorem RfOk.rd {b : List Nat} {r : RS} (h : RfOk b r) : r.1.length ≤ 1000000000 := Nat.le_trans h.suf.length_le h.len
theorem Par.rf {α : Type} {P : RS → α × RS} (hP : Par P) {b : List Nat} {r : RS} (h : RfOk b r) : RfOk b (P r).2 := ⟨hP.byte h.byte, (hP.suf r).trans h.suf, h.len⟩
theorem must_bad {r : RS} (h : r.2 ≠ 0) (is : Bool) : mustS is r = r := by unfold mustS; rw [if_neg fun q => h q.1]
theorem must_t (r : RS) : mustS true r = r := by unfold mustS; rw [if_neg (by simp)]
theorem rfnum_o (n : Nat) (b : List Nat) (r : RS) (hr : RfOk b r) : OCall Tryz.prog 121 [.o (.ptr 1000 n 0)] (memL [(1000, (n + 1, some (rfM b r)))]) (.p (.k .u64 ((numS r).1 : Int))) (memL [(1000, (n + 1, some (rfM b (numS r).2)))]) := by
  refine ocall_of1 Tryz.func121 rfl (fun w0 F S0 M0 => ?_)
  have hsf := hr.suf
  have hln := hr.len
  haveI b1 : OC Tryz.prog 159 [.o (.ptr 1000 n 0), .p (.i 1)] [(1000, (n + 1, some (rfM b r)))] [] True (.p (.sl 1 ((takeS 1 r).1.map bR) false)) [(1000, (n + 1, some (rfM b (takeS 1 r).2)))] := ⟨fun _ => (rbytes_o n b r 1 hsf hln (by decide)).one 1000⟩
  by_cases h0 : (takeS 1 r).1.length = 0
  · rw [show numS r = (0, (takeS 1 r).2) by unfold numS; rw [if_pos h0]]
    have h1 : (takeS 1 r).2.2 ≠ 0 := by
      intro q
      unfold takeS at h0 q
      by_cases h2 : r.2 ≠ 0
      · rw [if_pos h2] at q; exact h2 q
      · rw [if_neg h2] at q h0
        by_cases h3 : r.1.length < 1
        · rw [if_pos h3] at q; exact absurd (show (8 : Int) = 0 from q) (by decide)
        · rw [if_neg h3] at h0
          rw [List.length_take] at h0; omega
    have d1 : decide (0 < ((takeS 1 r).1.length : Int)) = false := decide_eq_false (by omega)
    have hsf1 : (takeS 1 r).2.1 <:+ b := ((par_take 1).suf r).trans hsf
    generalize takeS 1 r = q at *
    obtain ⟨H, r1⟩ := q
    dsimp only at *
    haveI m1 : ∀ is : Bool, OC Tryz.prog 122 [.o (.ptr 1000 n 0), .p (.b is)] [(1000, (n + 1, some (rfM b r1)))] [] True (.tup []) [(1000, (n + 1, some (rfM b r1)))] := fun is => ⟨fun _ => by have := (rmust_o n b r1 is).one 1000; rw [must_bad h1] at this; exact this⟩
    have s1 : r1.1 <:+ b := hsf1
    haveI b0 : OC Tryz.prog 159 [.o (.ptr 1000 n 0), .p (.i 0)] [(1000, (n + 1, some (rfM b r1)))] [] True (.p (.sl 1 (([] : List Nat).map bR) false)) [(1000, (n + 1, some (rfM b r1)))] := ⟨fun _ => by have := (rbytes_o n b r1 0 s1 hln (by decide)).one 1000; rw [take_bad h1] at this; exact this⟩
    have d3 : decide (r1.2 ≠ 0) = true := decide_eq_true h1
    have d4 : decide ((0 : Int) < ((([] : List Nat).length : Nat) : Int)) = false := rfl
    repeat' (first | refine rnC ?_ | refine rnSB ?_ | refine rnG ?_ | refine rnU ?_ | ((fail_if_success (refine rnKn ?_)); refine rnP ?_ ?_ <;> (intro hq; try (have hq' := hq; simp only [hqs] at hq'))) | refine rkC ?_ | refine rkSB ?_ | refine rkF ?_ | refine rkU ?_ | ((fail_if_success (refine rkKn ?_)); refine rkP ?_ ?_ <;> (intro hq; try (have hq' := hq; simp only [hqs] at hq'))) | refine stp ?_ | refine ifT ?_ | refine ifF ?_ | (refine ifQ ?_ ?_ <;> (try (intro hn))) | (refine ifB ?_ ?_ <;> (intro hq; try (have hq' := hq; simp only [hqs] at hq'))))
    refine aws_loopS [6, 7, 24, 25, 26, 27, 28, 29, 30, 31, 32, 33, 34, 35, 36, 37, 38, 39, 40, 41, 42, 43, 44, 45, 46, 47, 48] [1000] (fun (_ : Unit) => [(7, .p (.i 0)), (6, .p (.k .u64 0))]) (fun _ => [(1000, (n + 1, some (rfM b r1)))]) (fun _ => True) (fun _ => 0) () trivial (by exact knA) (by exact knA) ?_
    rintro ⟨⟩ β γ -
    as_aux_lemma =>
      repeat' (first | refine rnC ?_ | refine rnSB ?_ | refine rnG ?_ | refine rnU ?_ | ((fail_if_success (refine rnKn ?_)); refine rnP ?_ ?_ <;> (intro hq; try (have hq' := hq; simp only [hqs] at hq'))) | refine rkC ?_ | refine rkSB ?_ | refine rkF ?_ | refine rkU ?_ | ((fail_if_success (refine rkKn ?_)); refine rkP ?_ ?_ <;> (intro hq; try (have hq' := hq; simp only [hqs] at hq'))) | refine stp ?_ | refine ifT ?_ | refine ifF ?_ | (refine ifQ ?_ ?_ <;> (try (intro hn))) | (refine ifB ?_ ?_ <;> (intro hq; try (have hq' := hq; simp only [hqs] at hq'))))
      exact RetO.mk (ot1 rfl rfl finS_p rfl) ⟨.box finL_p, trivial⟩
  · have d1 : decide (0 < ((takeS 1 r).1.length : Int)) = true := decide_eq_true (by omega)
    have h1l : 0 < (takeS 1 r).1.length := by omega
    have en : numS r = (if (numR2 r).2 = 0 then valB (numL r).1 else 0, numR2 r) := by unfold numS; rw [if_neg h0]
    rw [en]
    have hL := numL_len r
    have hB := numL_byte hr.byte
    have hH : (takeS 1 r).1.getD (0 : Int).toNat default < 256 := by
      have := (take_byte (n := 1) hr.byte).1
      rw [List.getD_eq_getElem?_getD, List.getElem?_eq_getElem (by show 0 < _; omega)]
      exact this _ (List.getElem_mem _)
    have s1 : RfOk b (takeS 1 r).2 := (par_take 1).rf hr
    have s2 : RfOk b (numR1 r) := by unfold numR1; exact ⟨by rw [must_1]; exact s1.byte, by rw [must_1]; exact s1.suf, s1.len⟩
    haveI m1 : OC Tryz.prog 122 [.o (.ptr 1000 n 0), .p (.b (decide ((((takeS 1 r).1.getD (0 : Int).toNat default : Nat) : Int) ≤ 8)))] [(1000, (n + 1, some (rfM b (takeS 1 r).2)))] [] True (.tup []) [(1000, (n + 1, some (rfM b (numR1 r))))] := ⟨fun _ => (rmust_o n b (takeS 1 r).2 _).one 1000⟩
    haveI b2 : OC Tryz.prog 159 [.o (.ptr 1000 n 0), .p (.i (((takeS 1 r).1.getD (0 : Int).toNat default : Nat) : Int))] [(1000, (n + 1, some (rfM b (numR1 r))))] [] True (.p (.sl 1 ((numL r).1.map bR) false)) [(1000, (n + 1, some (rfM b (numL r).2)))] := ⟨fun _ => (rbytes_o n b (numR1 r) _ s2.suf hln (by omega)).one 1000⟩
    have hR : numR2 r = if (numL r).1.length = 0 then (numL r).2 else mustS (decide (0 < (((numL r).1.getD 0 default : Nat) : Int))) (numL r).2 := by
      unfold numR2
      by_cases q : (numL r).1.length = 0
      · rw [if_pos q, if_pos q]; exact must_t _
      · rw [if_neg q, if_neg q]; rfl
    generalize numR2 r = r3 at hR ⊢
    generalize numL r = q at hL hB b2 hR ⊢
    generalize numR1 r = rA at m1 b2 s2
    obtain ⟨L, r2⟩ := q
    dsimp only at hL hB b2 hR ⊢
    generalize takeS 1 r = q1 at b1 d1 h1l hH m1 b2 s1
    obtain ⟨H, r1⟩ := q1
    dsimp only at b1 d1 h1l hH m1 b2 s1
    haveI m3 : OC Tryz.prog 122 [.o (.ptr 1000 n 0), .p (.b true)] [(1000, (n + 1, some (rfM b r3)))] [] True (.tup []) [(1000, (n + 1, some (rfM b r3)))] := ⟨fun _ => by have := (rmust_o n b r3 true).one 1000; rw [must_t] at this; exact this⟩
    clear en h0 s1 s2 hr
    repeat' (first | refine rnC ?_ | refine rnSB ?_ | refine rnG ?_ | refine rnU ?_ | ((fail_if_success (refine rnKn ?_)); refine rnP ?_ ?_ <;> (intro hq; try (have hq' := hq; simp only [hqs] at hq'))) | refine rkC ?_ | refine rkSB ?_ | refine rkF ?_ | refine rkU ?_ | ((fail_if_success (refine rkKn ?_)); refine rkP ?_ ?_ <;> (intro hq; try (have hq' := hq; simp only [hqs] at hq'))) | refine stp ?_ | refine ifT ?_ | refine ifF ?_ | (refine ifQ ?_ ?_ <;> (try (intro hn))) | (refine ifB ?_ ?_ <;> (intro hq; try (have hq' := hq; simp only [hqs] at hq'))))
    refine aws_loopS [6, 7, 24, 25, 26, 27, 28, 29, 30, 31, 32, 33, 34, 35, 36, 37, 38, 39, 40, 41, 42, 43, 44, 45, 46, 47, 48] [1000] (fun (x : Nat × Nat × RS) => [(7, .p (.i x.1)), (6, .p (.k .u64 (x.2.1 : Int)))]) (fun x => [(1000, (n + 1, some (rfM b x.2.2)))]) (fun x => x.1 ≤ L.length ∧ x.2.1 = valB (L.take x.1) ∧ x.2.2 = if x.1 = 0 then r2 else r3) (fun x => L.length - x.1) (0, 0, r2) ⟨Nat.zero_le _, rfl, rfl⟩ (by exact knA) (by exact knA) ?_
    rintro ⟨i, a, rr⟩ β γ ⟨hi, ha, hrr⟩
    dsimp only at hi ha hrr ⊢
    by_cases hil : i < L.length
    · have q0 : decide ((i : Int) < (L.length : Int)) = true := decide_eq_true (by omega)
      have hc : L.getD (i : Int).toNat default < 256 := by
        rw [Int.toNat_natCast, List.getD_eq_getElem?_getD, List.getElem?_eq_getElem hil]; exact hB _ (List.getElem_mem _)
      have ht : L.take (i + 1) = L.take i ++ [L.getD (i : Int).toNat default] := by
        rw [Int.toNat_natCast, List.take_succ_eq_append_getElem hil, List.getD_eq_getElem?_getD, List.getElem?_eq_getElem hil]; rfl
      have hv : 256 * a + L.getD (i : Int).toNat default < 18446744073709551616 := by
        have := valB_fit (l := L.take (i + 1)) (by rw [List.length_take]; omega) (fun b k => hB b (List.mem_of_mem_take k))
        rw [ht, valB_snoc, ← ha] at this
        omega
      have hnx : (256 * a % md .u64 + L.getD (i : Int).toNat default % md .u64) % md .u64 = valB (L.take (i + 1)) := by
        rw [ht, valB_snoc, ← ha, show md .u64 = 18446744073709551616 from rfl]; omega
      by_cases hi0 : i = 0
      · have q1 : decide (0 < (i : Int)) = false := decide_eq_false (by omega)
        rw [if_pos hi0] at hrr
        rw [if_neg (by omega)] at hR
        have hR' : r3 = mustS (decide (0 < ((L.getD (i : Int).toNat default : Nat) : Int))) r2 := by rw [hR, hi0]; rfl
        subst hrr
        haveI m2 : OC Tryz.prog 122 [.o (.ptr 1000 n 0), .p (.b (decide (0 < ((L.getD (i : Int).toNat default : Nat) : Int))))] [(1000, (n + 1, some (rfM b rr)))] [] True (.tup []) [(1000, (n + 1, some (rfM b r3)))] := ⟨fun _ => by rw [hR']; exact (rmust_o n b rr _).one 1000⟩
        clear hR hR' hB ha ht
        as_aux_lemma =>
          repeat' (first | refine rnC ?_ | refine rnSB ?_ | refine rnG ?_ | refine rnU ?_ | ((fail_if_success (refine rnKn ?_)); refine rnP ?_ ?_ <;> (intro hq; try (have hq' := hq; simp only [hqs] at hq'))) | refine rkC ?_ | refine rkSB ?_ | refine rkF ?_ | refine rkU ?_ | ((fail_if_success (refine rkKn ?_)); refine rkP ?_ ?_ <;> (intro hq; try (have hq' := hq; simp only [hqs] at hq'))) | refine stp ?_ | refine ifT ?_ | refine ifF ?_ | (refine ifQ ?_ ?_ <;> (try (intro hn))) | (refine ifB ?_ ?_ <;> (intro hq; try (have hq' := hq; simp only [hqs] at hq'))))
          exact ⟨(i + 1, (256 * a % md .u64 + L.getD (i : Int).toNat default % md .u64) % md .u64, r3), _, by dsimp only; omega, ⟨by dsimp only; omega, hnx, (if_neg (by dsimp only; omega)).symm⟩, .refl, by exact frA⟩
      · have q1 : decide (0 < (i : Int)) = true := decide_eq_true (by omega)
        rw [if_neg hi0] at hrr
        subst hrr
        clear hR hB ha ht
        as_aux_lemma =>
          repeat' (first | refine rnC ?_ | refine rnSB ?_ | refine rnG ?_ | refine rnU ?_ | ((fail_if_success (refine rnKn ?_)); refine rnP ?_ ?_ <;> (intro hq; try (have hq' := hq; simp only [hqs] at hq'))) | refine rkC ?_ | refine rkSB ?_ | refine rkF ?_ | refine rkU ?_ | ((fail_if_success (refine rkKn ?_)); refine rkP ?_ ?_ <;> (intro hq; try (have hq' := hq; simp only [hqs] at hq'))) | refine stp ?_ | refine ifT ?_ | refine ifF ?_ | (refine ifQ ?_ ?_ <;> (try (intro hn))) | (refine ifB ?_ ?_ <;> (intro hq; try (have hq' := hq; simp only [hqs] at hq'))))
          exact ⟨(i + 1, (256 * a % md .u64 + L.getD (i : Int).toNat default % md .u64) % md .u64, rr), _, by dsimp only; omega, ⟨by dsimp only; omega, hnx, (if_neg (by dsimp only; omega)).symm⟩, .refl, by exact frA⟩
    · have q0 : decide ((i : Int) < (L.length : Int)) = false := decide_eq_false (by omega)
      obtain rfl : i = L.length := by omega
      rw [List.take_length] at ha
      have hrr3 : rr = r3 := by
        rw [hrr, hR]
        by_cases q : L.length = 0
        · rw [if_pos q, if_pos q]
        · rw [if_neg q, if_neg q]
      subst hrr3
      clear hrr hR
      rw [← ha]
      by_cases hz : rr.2 = 0
      · have d4 : decide (rr.2 ≠ 0) = false := decide_eq_false fun q => q hz
        rw [if_pos hz]
        as_aux_lemma =>
          repeat' (first | refine rnC ?_ | refine rnSB ?_ | refine rnG ?_ | refine rnU ?_ | ((fail_if_success (refine rnKn ?_)); refine rnP ?_ ?_ <;> (intro hq; try (have hq' := hq; simp only [hqs] at hq'))) | refine rkC ?_ | refine rkSB ?_ | refine rkF ?_ | refine rkU ?_ | ((fail_if_success (refine rkKn ?_)); refine rkP ?_ ?_ <;> (intro hq; try (have hq' := hq; simp only [hqs] at hq'))) | refine stp ?_ | refine ifT ?_ | refine ifF ?_ | (refine ifQ ?_ ?_ <;> (try (intro hn))) | (refine ifB ?_ ?_ <;> (intro hq; try (have hq' := hq; simp only [hqs] at hq'))))
          exact RetO.mk (ot1 rfl rfl finS_p rfl) ⟨.box finL_p, trivial⟩
      · have d4 : decide (rr.2 ≠ 0) = true := decide_eq_true hz
        rw [if_neg hz]
        as_aux_lemma =>
          repeat' (first | refine rnC ?_ | refine rnSB ?_ | refine rnG ?_ | refine rnU ?_ | ((fail_if_success (refine rnKn ?_)); refine rnP ?_ ?_ <;> (intro hq; try (have hq' := hq; simp only [hqs] at hq'))) | refine rkC ?_ | refine rkSB ?_ | refine rkF ?_ | refine rkU ?_ | ((fail_if_success (refine rkKn ?_)); refine rkP ?_ ?_ <;> (intro hq; try (have hq' := hq; simp only [hqs] at hq'))) | refine stp ?_ | refine ifT ?_ | refine ifF ?_ | (refine ifQ ?_ ?_ <;> (try (intro hn))) | (refine ifB ?_ ?_ <;> (intro hq; try (have hq' := hq; simp only [hqs] at hq'))))
          exact RetO.mk (ot1 rfl rfl finS_p rfl) ⟨.box finL_p, trivial⟩
end Go.Proofs.YtlaeldgebecppaaGreat.Wi
