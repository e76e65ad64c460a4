/- wire: a reader's whole numbers, texts and vectors; its end; packs: a cart's bytes, written; packs: a cart read -/
import Derived.Test.YtclcfjejpogdlaaGreatIB19
namespace Go.Proofs.YtclcfjejpogdlaaGreat.Wi
open Go Go.RowKit Go.Aw Go.Aw.Cart Go.Proofs.YtclcfjejpogdlaaGreat.Ca
set_option linter.unusedVariables false
set_option linter.unusedSimpArgs false
set_option maxRecDepth 8000
set_option maxHeartbeats 4000000
/-- conversions whose result is known -/
theorem lop_conv_a {C : Ctx} {o : Oper} {σ : St} {s d : TypeId} {x : Operand} {k k' : IntKind} {n m : Int} {sz by_ : Nat} {ks : TK} {sz' by' : Nat} (ho : o.op = .convert s d x) (hT : TI C.P d (.int k') sz by_) (hS : TI C.P s ks sz' by') (hx : σ.look x = .p (.v (.int k n))) (hw : k'.wrap n = m) (hd : dOk C o.dst = true) : LOp C o σ ⟨.p (.v (.int k' m)), []⟩ (fun _ => false) := by
  have := lop_conv ho hx hd; rwa [hw] at this
namespace W6
theorem lopC {C : Ctx} {o : Oper} {σ : St} {e : Eff} {ro : Nat → Bool} (h : LOp C o σ e ro := by
    first | (apply lop_conv_a; (focus rfl); (focus exact inferInstance); (focus exact inferInstance); (focus rfl); (focus assumption); (focus rfl)) | exact W5.lopC | fail) : LOp C o σ e ro := h
section steps
variable {C : Ctx} {ops : Array Oper} {o : Oper} {rest : List Oper} {K : St → Prop} {σ : St} {e : Eff} {ro : Nat → Bool} {W : List (Nat × Nat)} {i : Nat}
theorem rnC {d : Nat} (hk : RunN C ops rest K (e.app (some d) σ)) (hg : Guard ops σ o true := by first | exact gd_n rfl rfl | exact gd_t rfl rfl rfl rfl | exact gd_t rfl rfl rfl (by assumption)) (hd : o.dst = some d := by rfl) (h : LOp C o σ e ro := by exact lopC) : RunN C ops (o :: rest) K σ := rn_any hg hd h hk
end steps
end W6
open W6
abbrev rdOk (r : RS) : Prop := (∀ b ∈ r.1, b < 256) ∧ r.1.length ≤ 1000000000
theorem Par.rd {α : Type} {P : RS → α × RS} (h : Par P) {r : RS} (hr : rdOk r) : rdOk (P r).2 := ⟨h.byte hr.1, Nat.le_trans (h.len r) hr.2⟩
theorem end_o (n : Nat) (r : RS) : OCall Tryz.prog 138 [.o (.ptr 1000 n 0)] (memL [(1000, (n + 1, some (rdM r)))]) (.p (.i (endS r))) (memL [(1000, (n + 1, some (rdM r)))]) := by
  refine ocall_of1 Tryz.func138 rfl (fun w0 F S0 M0 => ?_)
  unfold endS
  by_cases h : r.2 = 0
  · have d1 : decide (r.2 ≠ 0) = false := decide_eq_false fun q => q h
    rw [if_neg (fun q => q h)]
    by_cases hl : 0 < r.1.length
    · have d2 : decide (0 < (r.1.length : Int)) = true := decide_eq_true (by omega)
      rw [if_pos hl]
      as_aux_lemma =>
        repeat' (first | refine rnC ?_ | refine rnSB ?_ | refine rnG ?_ | refine rnU ?_ | ((fail_if_success (refine rnKn ?_)); refine rnP ?_ ?_ <;> (intro hq; try (have hq' := hq; simp only [hqs] at hq'))) | refine rkC ?_ | refine rkSB ?_ | refine rkF ?_ | refine rkU ?_ | ((fail_if_success (refine rkKn ?_)); refine rkP ?_ ?_ <;> (intro hq; try (have hq' := hq; simp only [hqs] at hq'))) | refine stp ?_ | refine aws_draws [] mixed (by kernel_rfl) ?_ | refine ifT ?_ | refine ifF ?_ | (refine ifQ ?_ ?_ <;> (try (intro hn))) | (refine ifB ?_ ?_ <;> (intro hq; try (have hq' := hq; simp only [hqs] at hq'))))
        exact RetO.mk (ot1 rfl rfl finS_p rfl) ⟨.box finL_p, trivial⟩
    · have d2 : decide (0 < (r.1.length : Int)) = false := decide_eq_false (by omega)
      rw [if_neg hl]
      as_aux_lemma =>
        repeat' (first | refine rnC ?_ | refine rnSB ?_ | refine rnG ?_ | refine rnU ?_ | ((fail_if_success (refine rnKn ?_)); refine rnP ?_ ?_ <;> (intro hq; try (have hq' := hq; simp only [hqs] at hq'))) | refine rkC ?_ | refine rkSB ?_ | refine rkF ?_ | refine rkU ?_ | ((fail_if_success (refine rkKn ?_)); refine rkP ?_ ?_ <;> (intro hq; try (have hq' := hq; simp only [hqs] at hq'))) | refine stp ?_ | refine aws_draws [] mixed (by kernel_rfl) ?_ | refine ifT ?_ | refine ifF ?_ | (refine ifQ ?_ ?_ <;> (try (intro hn))) | (refine ifB ?_ ?_ <;> (intro hq; try (have hq' := hq; simp only [hqs] at hq'))))
        exact RetO.mk (ot1 rfl rfl finS_p rfl) ⟨.box finL_p, trivial⟩
  · have d1 : decide (r.2 ≠ 0) = true := decide_eq_true h
    rw [if_pos h]
    as_aux_lemma =>
      repeat' (first | refine rnC ?_ | refine rnSB ?_ | refine rnG ?_ | refine rnU ?_ | ((fail_if_success (refine rnKn ?_)); refine rnP ?_ ?_ <;> (intro hq; try (have hq' := hq; simp only [hqs] at hq'))) | refine rkC ?_ | refine rkSB ?_ | refine rkF ?_ | refine rkU ?_ | ((fail_if_success (refine rkKn ?_)); refine rkP ?_ ?_ <;> (intro hq; try (have hq' := hq; simp only [hqs] at hq'))) | refine stp ?_ | refine aws_draws [] mixed (by kernel_rfl) ?_ | refine ifT ?_ | refine ifF ?_ | (refine ifQ ?_ ?_ <;> (try (intro hn))) | (refine ifB ?_ ?_ <;> (intro hq; try (have hq' := hq; simp only [hqs] at hq'))))
      exact RetO.mk (ot1 rfl rfl finS_p rfl) ⟨.box finL_p, trivial⟩
instance end_i {c g n : Nat} {r : RS} : OC Tryz.prog 138 [.o (.ptr c g 0)] [(c, (n, some (rdM r)))] [] (n = g + 1) (.p (.i (endS r))) [(c, (n, some (rdM r)))] := ⟨fun h => by subst h; exact (end_o g r).one c⟩
theorem rint_o (n : Nat) (r : RS) (hr : rdOk r) : OCall Tryz.prog 211 [.o (.ptr 1000 n 0)] (memL [(1000, (n + 1, some (rdM r)))]) (.p (.i (intS r).1)) (memL [(1000, (n + 1, some (rdM (intS r).2)))]) := by
  refine ocall_of1 Tryz.func211 rfl (fun w0 F S0 M0 => ?_)
  have hmd : md .u64 = 18446744073709551616 := rfl
  have hf := numS_fit hr.1
  have eI : intS r = okS (unz (numS r).1) 0 (mustS (zOk (numS r).1) (numS r).2) := rfl
  rw [eI]
  haveI : ∀ c g m : Nat, OC Tryz.prog 135 [.o (.ptr c g 0)] [(c, (m, some (rdM r)))] [] (m = g + 1) (.p (.k .u64 ((numS r).1 : Int))) [(c, (m, some (rdM (numS r).2)))] := fun c g m => ⟨fun h => by obtain rfl := h; exact (rnum_o g r hr.1 hr.2).one c⟩
  generalize numS r = q at hf ⊢ this
  obtain ⟨x, r1⟩ := q
  dsimp only at hf ⊢ this
  have hand : (x % md .u64 &&& 1 % md .u64) = x % 2 := by
    rw [hmd, show x % 18446744073709551616 = x by omega, show 1 % 18446744073709551616 = 2 ^ 1 - 1 from rfl, Nat.and_two_pow_sub_one_eq_mod]
  have hK : x / 2 ^ (1 : Int).toNat = x / 2 := rfl
  have hw : IntKind.i64.wrap ((x / 2 ^ (1 : Int).toNat : Nat) : Int) = ((x / 2 : Nat) : Int) := by rw [hK]; exact IntWalk.i64_in _ (by omega)
  have hcn : -9223372036854775808 ≤ ((x / 2 : Nat) : Int) ∧ ((x / 2 : Nat) : Int) ≤ 9223372036854775807 := by omega
  have fin : ∀ r2 : RS, okS (unz x) 0 r2 = (if r2.2 = 0 then unz x else 0, r2) := fun _ => rfl
  rw [fin]
  unfold zOk
  by_cases he : x % 2 = 0
  · have d1 : decide (((x % md .u64 &&& 1 % md .u64 : Nat) : Int) = 0) = true := decide_eq_true (by rw [hand]; omega)
    have d4 : decide (((x % md .u64 &&& 1 % md .u64 : Nat) : Int) = 1) = false := decide_eq_false (by rw [hand]; omega)
    have e2 : decide (x / 2 ≤ 4611686018427387904) = decide (((x / 2 ^ (1 : Int).toNat : Nat) : Int) ≤ 4611686018427387904) := by rw [hK]; exact decide_eq_decide.2 (by omega)
    have eu : unz x = ((x / 2 : Nat) : Int) := by unfold unz; rw [if_neg (by omega)]
    rw [if_pos he, e2, eu]
    by_cases hz : (mustS (decide (((x / 2 ^ (1 : Int).toNat : Nat) : Int) ≤ 4611686018427387904)) r1).2 = 0
    · have d2 : decide ((mustS (decide (((x / 2 ^ (1 : Int).toNat : Nat) : Int) ≤ 4611686018427387904)) r1).2 ≠ 0) = false := decide_eq_false fun q => q hz
      rw [if_pos hz]
      as_aux_lemma =>
        repeat' (first | refine rnC ?_ | refine rnSB ?_ | refine rnG ?_ | refine rnU ?_ | ((fail_if_success (refine rnKn ?_)); refine rnP ?_ ?_ <;> (intro hq; try (have hq' := hq; simp only [hqs] at hq'))) | refine rkC ?_ | refine rkSB ?_ | refine rkF ?_ | refine rkU ?_ | ((fail_if_success (refine rkKn ?_)); refine rkP ?_ ?_ <;> (intro hq; try (have hq' := hq; simp only [hqs] at hq'))) | refine stp ?_ | refine ifT ?_ | refine ifF ?_ | (refine ifQ ?_ ?_ <;> (try (intro hn))) | (refine ifB ?_ ?_ <;> (intro hq; try (have hq' := hq; simp only [hqs] at hq'))))
        exact RetO.mk (ot1 rfl rfl finS_p rfl) ⟨.box finL_p, trivial⟩
    · have d2 : decide ((mustS (decide (((x / 2 ^ (1 : Int).toNat : Nat) : Int) ≤ 4611686018427387904)) r1).2 ≠ 0) = true := decide_eq_true hz
      rw [if_neg hz]
      as_aux_lemma =>
        repeat' (first | refine rnC ?_ | refine rnSB ?_ | refine rnG ?_ | refine rnU ?_ | ((fail_if_success (refine rnKn ?_)); refine rnP ?_ ?_ <;> (intro hq; try (have hq' := hq; simp only [hqs] at hq'))) | refine rkC ?_ | refine rkSB ?_ | refine rkF ?_ | refine rkU ?_ | ((fail_if_success (refine rkKn ?_)); refine rkP ?_ ?_ <;> (intro hq; try (have hq' := hq; simp only [hqs] at hq'))) | refine stp ?_ | refine ifT ?_ | refine ifF ?_ | (refine ifQ ?_ ?_ <;> (try (intro hn))) | (refine ifB ?_ ?_ <;> (intro hq; try (have hq' := hq; simp only [hqs] at hq'))))
        exact RetO.mk (ot1 rfl rfl finS_p rfl) ⟨.box finL_p, trivial⟩
  · have d1 : decide (((x % md .u64 &&& 1 % md .u64 : Nat) : Int) = 0) = false := decide_eq_false (by rw [hand]; omega)
    have d4 : decide (((x % md .u64 &&& 1 % md .u64 : Nat) : Int) = 1) = true := decide_eq_true (by rw [hand]; omega)
    have e2 : decide (x / 2 < 4611686018427387904) = decide (((x / 2 ^ (1 : Int).toNat : Nat) : Int) < 4611686018427387904) := by rw [hK]; exact decide_eq_decide.2 (by omega)
    have eu : unz x = -((x / 2 : Nat) : Int) - 1 := by unfold unz; rw [if_pos (by omega)]
    rw [if_neg he, e2, eu]
    by_cases hz : (mustS (decide (((x / 2 ^ (1 : Int).toNat : Nat) : Int) < 4611686018427387904)) r1).2 = 0
    · have d2 : decide ((mustS (decide (((x / 2 ^ (1 : Int).toNat : Nat) : Int) < 4611686018427387904)) r1).2 ≠ 0) = false := decide_eq_false fun q => q hz
      rw [if_pos hz]
      as_aux_lemma =>
        repeat' (first | refine rnC ?_ | refine rnSB ?_ | refine rnG ?_ | refine rnU ?_ | ((fail_if_success (refine rnKn ?_)); refine rnP ?_ ?_ <;> (intro hq; try (have hq' := hq; simp only [hqs] at hq'))) | refine rkC ?_ | refine rkSB ?_ | refine rkF ?_ | refine rkU ?_ | ((fail_if_success (refine rkKn ?_)); refine rkP ?_ ?_ <;> (intro hq; try (have hq' := hq; simp only [hqs] at hq'))) | refine stp ?_ | refine ifT ?_ | refine ifF ?_ | (refine ifQ ?_ ?_ <;> (try (intro hn))) | (refine ifB ?_ ?_ <;> (intro hq; try (have hq' := hq; simp only [hqs] at hq'))))
        exact RetO.mk (ot1 rfl rfl finS_p rfl) ⟨.box finL_p, trivial⟩
    · have d2 : decide ((mustS (decide (((x / 2 ^ (1 : Int).toNat : Nat) : Int) < 4611686018427387904)) r1).2 ≠ 0) = true := decide_eq_true hz
      rw [if_neg hz]
      as_aux_lemma =>
        repeat' (first | refine rnC ?_ | refine rnSB ?_ | refine rnG ?_ | refine rnU ?_ | ((fail_if_success (refine rnKn ?_)); refine rnP ?_ ?_ <;> (intro hq; try (have hq' := hq; simp only [hqs] at hq'))) | refine rkC ?_ | refine rkSB ?_ | refine rkF ?_ | refine rkU ?_ | ((fail_if_success (refine rkKn ?_)); refine rkP ?_ ?_ <;> (intro hq; try (have hq' := hq; simp only [hqs] at hq'))) | refine stp ?_ | refine ifT ?_ | refine ifF ?_ | (refine ifQ ?_ ?_ <;> (try (intro hn))) | (refine ifB ?_ ?_ <;> (intro hq; try (have hq' := hq; simp only [hqs] at hq'))))
        exact RetO.mk (ot1 rfl rfl finS_p rfl) ⟨.box finL_p, trivial⟩
theorem small_nat (most : Int) (r : RS) : ∃ k : Nat, (smallS most r).1 = k := by
  unfold smallS
  dsimp only
  split
  · exact ⟨_, rfl⟩
  · exact ⟨0, rfl⟩
theorem rtext_o (n : Nat) (r : RS) (most : Int) (hm : most ≤ 9223372036854775807) (hr : rdOk r) : OCall Tryz.prog 134 [.o (.ptr 1000 n 0), .p (.i most)] (memL [(1000, (n + 1, some (rdM r)))]) (.p (.sl 1 ((textS most r).1.map bR) false)) (memL [(1000, (n + 1, some (rdM (textS most r).2)))]) := by
  refine ocall_of1 Tryz.func134 rfl (fun w0 F S0 M0 => ?_)
  obtain ⟨k, hk⟩ := small_nat most r
  have e : textS most r = takeS k (smallS most r).2 := by
    show takeS (smallS most r).1.toNat (smallS most r).2 = _
    rw [hk, Int.toNat_natCast]
  rw [e]
  haveI : ∀ c g m : Nat, OC Tryz.prog 97 [.o (.ptr c g 0), .p (.i most)] [(c, (m, some (rdM r)))] [] (m = g + 1) (.p (.i (k : Int))) [(c, (m, some (rdM (smallS most r).2)))] := fun c g m => ⟨fun h => by obtain rfl := h; rw [← hk]; exact (small_o g r most hm hr.1 hr.2).one c⟩
  have h2 := (par_small most).rd hr
  have h3 : (takeS k (smallS most r).2).1.length ≤ 1000000000 := Nat.le_trans take_len.2.1 h2.2
  generalize (smallS most r).2 = r2 at h2 h3 ⊢ this
  as_aux_lemma =>
    repeat' (first | refine rnC ?_ | refine rnSB ?_ | refine rnG ?_ | refine rnU ?_ | ((fail_if_success (refine rnKn ?_)); refine rnP ?_ ?_ <;> (intro hq; try (have hq' := hq; simp only [hqs] at hq'))) | refine rkC ?_ | refine rkSB ?_ | refine rkF ?_ | refine rkU ?_ | ((fail_if_success (refine rkKn ?_)); refine rkP ?_ ?_ <;> (intro hq; try (have hq' := hq; simp only [hqs] at hq'))) | refine stp ?_ | refine ifT ?_ | refine ifF ?_ | (refine ifQ ?_ ?_ <;> (try (intro hn))) | (refine ifB ?_ ?_ <;> (intro hq; try (have hq' := hq; simp only [hqs] at hq'))))
    exact RetO.mk (ot1 rfl rfl finS_p rfl) ⟨.box finL_p, trivial⟩
theorem set_rep (A : List Int) (k : Nat) (n z : Int) : (A ++ List.replicate (k + 1) z).set A.length n = (A ++ [n]) ++ List.replicate k z := by
  rw [List.replicate_succ, List.set_append_right _ _ (Nat.le_refl _), Nat.sub_self, List.set_cons_zero, List.append_assoc]; rfl
theorem rvec_o (n : Nat) (r : RS) (hr : rdOk r) : OCall Tryz.prog 235 [.o (.ptr 1000 n 0)] (memL [(1000, (n + 1, some (rdM r)))]) (vV (vecS r).1) (memL [(1000, (n + 1, some (rdM (vecS r).2)))]) := by
  refine ocall_of1 Tryz.func235 rfl (fun w0 F S0 M0 => ?_)
  have eV : vecS r = (if (allS numZ 8 r).2.2 = 0 then (allS numZ 8 r).1 else zeroV, (allS numZ 8 r).2) := rfl
  rw [eV]
  repeat' (first | refine rnC ?_ | refine rnSB ?_ | refine rnG ?_ | refine rnU ?_ | ((fail_if_success (refine rnKn ?_)); refine rnP ?_ ?_ <;> (intro hq; try (have hq' := hq; simp only [hqs] at hq'))) | refine rkC ?_ | refine rkSB ?_ | refine rkF ?_ | refine rkU ?_ | ((fail_if_success (refine rkKn ?_)); refine rkP ?_ ?_ <;> (intro hq; try (have hq' := hq; simp only [hqs] at hq'))) | refine stp ?_ | refine ifT ?_ | refine ifF ?_ | (refine ifQ ?_ ?_ <;> (try (intro hn))) | (refine ifB ?_ ?_ <;> (intro hq; try (have hq' := hq; simp only [hqs] at hq'))))
  refine aws_loopS [4, 5, 6, 7, 8, 9, 10, 11, 12] [1000, 3] (fun (x : Nat × List Int × RS) => [(5, .p (.i x.1))]) (fun x => [(1000, (n + 1, some (rdM x.2.2))), (3, (1, some (.box 143 (x.2.1.map fun n => AC.p (.k .u64 n)))))])
    (fun x => x.1 ≤ 8 ∧ x.2.1 = (allS numZ x.1 r).1 ++ List.replicate (8 - x.1) 0 ∧ x.2.2 = (allS numZ x.1 r).2) (fun x => 8 - x.1) (0, zeroV, r) ⟨Nat.zero_le _, rfl, rfl⟩ (by exact knA) (by exact knA) ?_
  rintro ⟨i, u, r1⟩ β γ ⟨hi, hu, h1⟩
  dsimp only at hi hu h1 ⊢
  have la := all_len numZ i r
  have lu : u.length = 8 := by rw [hu, List.length_append, List.length_replicate, la]; omega
  by_cases hi8 : i < 8
  · have d1 : decide ((i : Int) < 8) = true := decide_eq_true (by omega)
    have hr1 : rdOk r1 := by rw [h1]; exact (par_all par_numZ i).rd hr
    have hb1 := hr1.1
    have hl1 := hr1.2
    have hs1 : u.set (i : Int).toNat ((numS r1).1 : Int) = (allS numZ (i + 1) r).1 ++ List.replicate (8 - (i + 1)) 0 := by
      rw [Int.toNat_natCast, hu, show 8 - i = (8 - (i + 1)) + 1 by omega]
      have := set_rep (allS numZ i r).1 (8 - (i + 1)) ((numS r1).1 : Int) 0
      rw [la] at this
      rw [this, h1]
      rfl
    have hs2 : (numS r1).2 = (allS numZ (i + 1) r).2 := by rw [h1]; rfl
    as_aux_lemma =>
      repeat' (first | refine rnC ?_ | refine rnSB ?_ | refine rnG ?_ | refine rnU ?_ | ((fail_if_success (refine rnKn ?_)); refine rnP ?_ ?_ <;> (intro hq; try (have hq' := hq; simp only [hqs] at hq'))) | refine rkC ?_ | refine rkSB ?_ | refine rkF ?_ | refine rkU ?_ | ((fail_if_success (refine rkKn ?_)); refine rkP ?_ ?_ <;> (intro hq; try (have hq' := hq; simp only [hqs] at hq'))) | refine stp ?_ | refine ifT ?_ | refine ifF ?_ | (refine ifQ ?_ ?_ <;> (try (intro hn))) | (refine ifB ?_ ?_ <;> (intro hq; try (have hq' := hq; simp only [hqs] at hq'))))
      exact ⟨(i + 1, u.set (i : Int).toNat ((numS r1).1 : Int), (numS r1).2), _, by dsimp only; omega, ⟨by dsimp only; omega, hs1, hs2⟩, .refl, by exact frA⟩
  · have d1 : decide ((i : Int) < 8) = false := decide_eq_false (by omega)
    obtain rfl : i = 8 := by omega
    rw [← h1]
    have hu' : u = (allS numZ 8 r).1 := by rw [hu]; simp
    rw [← hu']
    by_cases hz : r1.2 = 0
    · have d2 : decide (r1.2 ≠ 0) = false := decide_eq_false fun q => q hz
      rw [if_pos hz]
      clear eV hu hu' h1 hz
      as_aux_lemma =>
        repeat' (first | refine rnC ?_ | refine rnSB ?_ | refine rnG ?_ | refine rnU ?_ | ((fail_if_success (refine rnKn ?_)); refine rnP ?_ ?_ <;> (intro hq; try (have hq' := hq; simp only [hqs] at hq'))) | refine rkC ?_ | refine rkSB ?_ | refine rkF ?_ | refine rkU ?_ | ((fail_if_success (refine rkKn ?_)); refine rkP ?_ ?_ <;> (intro hq; try (have hq' := hq; simp only [hqs] at hq'))) | refine stp ?_ | refine ifT ?_ | refine ifF ?_ | (refine ifQ ?_ ?_ <;> (try (intro hn))) | (refine ifB ?_ ?_ <;> (intro hq; try (have hq' := hq; simp only [hqs] at hq'))))
        exact RetO.mk (oc1 rfl rfl rfl rfl rfl (by rw [List.length_map]; exact lu) finL_p rfl) ⟨.box finL_p, trivial⟩
    · have d2 : decide (r1.2 ≠ 0) = true := decide_eq_true hz
      rw [if_neg hz]
      clear eV hu hu' h1 hz
      as_aux_lemma =>
        repeat' (first | refine rnC ?_ | refine rnSB ?_ | refine rnG ?_ | refine rnU ?_ | ((fail_if_success (refine rnKn ?_)); refine rnP ?_ ?_ <;> (intro hq; try (have hq' := hq; simp only [hqs] at hq'))) | refine rkC ?_ | refine rkSB ?_ | refine rkF ?_ | refine rkU ?_ | ((fail_if_success (refine rkKn ?_)); refine rkP ?_ ?_ <;> (intro hq; try (have hq' := hq; simp only [hqs] at hq'))) | refine stp ?_ | refine ifT ?_ | refine ifF ?_ | (refine ifQ ?_ ?_ <;> (try (intro hn))) | (refine ifB ?_ ?_ <;> (intro hq; try (have hq' := hq; simp only [hqs] at hq'))))
        exact RetO.mk (oc1 rfl rfl rfl rfl rfl rfl finL_p rfl) ⟨.box finL_p, trivial⟩
end Go.Proofs.YtclcfjejpogdlaaGreat.Wi
namespace Go.Proofs.YtclcfjejpogdlaaGreat.Wi
open Go Go.RowKit Go.Aw Go.Aw.Cart Go.Proofs.YtclcfjejpogdlaaGreat.Ca
set_option linter.unusedVariables false
set_option linter.unusedSimpArgs false
set_option maxRecDepth 8000
set_option maxHeartbeats 4000000
/-- a new writer, as one object -/
theorem says_wr0 {C : Ctx} {σ : St} {p np ty tyB es : Nat} (hp : σ.mem p = (np, some (.box ty [.p (.v (.slice none 0 0))]))) (hes : 0 < es) : Says C σ (σ.put p (np, some (.abs (pkA ty [] [] tyB es [])))) := by
  rintro a w ⟨G, h⟩
  obtain ⟨g, m, hg, hmm, b, arr, h1, h2, h3, h4⟩ := h.mem p _ _ hp
  have hlen : (G.μ p).length = np := by have := h.gens p; rw [hp] at this; exact this
  refine ⟨_, h.upd (o := p) (n' := np) (mo' := some (.abs (pkA ty [] [] tyB es []))) (μo := G.μ p) (fp' := G.φ p) (w' := w) (fun g x hx => hx) hlen rfl .same rfl (Nat.le_refl _) (fun _ _ _ => rfl) (fun b hb => ⟨.inl hb, (h.own p b hb).2⟩) (fun mo1 hmo => ?_)⟩
  obtain rfl := Option.some.inj hmo
  obtain ⟨x, l, rfl, k1, k2⟩ := h4.cons_inv
  obtain rfl := k2.nil_inv
  obtain ⟨rfl, _⟩ := k1
  exact ⟨g, m, hg, hmm, b, h1, none, 0, [], [], [], h3, h2, by simp, .nil, .nil, hes, by simp [maxLen], Nat.le_refl _, .inl ⟨rfl, rfl, rfl⟩⟩
theorem says_wr {C : Ctx} {σ : St} {p np : Nat} (hp : σ.mem p = (np, some (.box 175 [.p (.v (.slice none 0 0))]))) : Says C σ (σ.put p (np, some (.abs (wrA [])))) := says_wr0 hp (by decide)
abbrev v8L (v : List Int) : List AC := [.p (.k .u64 (v.getD 0 default)), .p (.k .u64 (v.getD 1 default)), .p (.k .u64 (v.getD 2 default)), .p (.k .u64 (v.getD 3 default)), .p (.k .u64 (v.getD 4 default)), .p (.k .u64 (v.getD 5 default)), .p (.k .u64 (v.getD 6 default)), .p (.k .u64 (v.getD 7 default))]
theorem vV8 {v : List Int} (h : v.length = 8) : vV v = .a (v8L v) := by
  show AV.a (v.map _) = _
  conv => lhs; rw [v8_eq h]
  rfl
namespace W7
theorem lopC {C : Ctx} {o : Oper} {σ : St} {e : Eff} {ro : Nat → Bool} (h : LOp C o σ e ro := by
    first
      | exact lopV
      | exact W6.lopC
      | (apply lop_call1; (focus rfl); (focus exact inferInstance); (focus exact lk_cart rfl); (focus exact inferInstance); (focus exact inferInstance); (focus first | exact True.intro | assumption | rfl | omega | ((repeat' (first | assumption | refine And.intro ?_ ?_ | omega | rfl)); done) | fail); (focus rfl))
            | (apply lop_call2; (focus rfl); (focus exact inferInstance); (focus exact lk_cart rfl); (focus exact lk_cart rfl); (focus exact inferInstance); (focus exact inferInstance); (focus first | exact True.intro | assumption | rfl | omega | ((repeat' (first | assumption | refine And.intro ?_ ?_ | omega | rfl)); done) | fail); (focus rfl))
            | (apply lop_call2; (focus rfl); (focus exact inferInstance); (focus exact lk_cart rfl); (focus first | exact lk_m1 rfl | exact lk_m2 rfl | exact lk_m3 rfl | exact lk_o rfl | exact lk_a2 rfl | exact lk_a3 rfl | exact lk_a4 rfl | exact lk_a1 rfl | exact lk_a5 rfl | exact lk_a6 rfl | exact lk_a7 rfl | exact lk_a8 rfl | exact lk_a rfl); (focus exact inferInstance); (focus exact inferInstance); (focus first | exact True.intro | assumption | rfl | omega | ((repeat' (first | assumption | refine And.intro ?_ ?_ | omega | rfl)); done) | fail); (focus rfl))
      | fail) : LOp C o σ e ro := h
section steps
variable {C : Ctx} {ops : Array Oper} {o : Oper} {rest : List Oper} {K : St → Prop} {σ : St} {e : Eff} {ro : Nat → Bool} {W : List (Nat × Nat)} {i : Nat}
theorem rnC {d : Nat} (hk : RunN C ops rest K (e.app (some d) σ)) (hg : Guard ops σ o true := by first | exact gd_n rfl rfl | exact gd_t rfl rfl rfl rfl | exact gd_t rfl rfl rfl (by assumption)) (hd : o.dst = some d := by rfl) (h : LOp C o σ e ro := by exact lopC) : RunN C ops (o :: rest) K σ := rn_any hg hd h hk
end steps
end W7
open W7
theorem put_ok (n : Nat) (bs : List Nat) (v : List Int) (l : List Ent) (ex : Bool) (hv : vecOk v) (hr : rightF v l = true) (h : bs.length ≤ 800000000) : OCall Tryz.prog 178 [.o (.ptr 1000 n 0), cV v l ex] (memL [(1000, (n + 1, some (.abs (wrA bs))))]) (.tup []) (memL [(1000, (n + 1, some (.abs (wrA (bs ++ cartB (v, l))))))]) := by
  refine ocall_of1 Tryz.func178 rfl (fun w0 F S0 M0 => ?_)
  have h8 := hv.1
  have hl : l.length ≤ 400 := (ok_iff.1 hr).few
  have hes := ok_ents (c := (v, l)) hr hv
  haveI : PC Tryz.prog 203 [cV v l ex] True (.p (.b true)) := ⟨fun _ => by have := right_w v l ex h8 (by omega); rwa [hr] at this⟩
  have d1 : (!true) = false := rfl
  have hvl : (vecB v).length ≤ 72 := by
    obtain ⟨a0, a1, a2, a3, a4, a5, a6, a7, rfl⟩ : ∃ a0 a1 a2 a3 a4 a5 a6 a7, v = [a0, a1, a2, a3, a4, a5, a6, a7] := ⟨_, _, _, _, _, _, _, _, v8_eq h8⟩
    have := numI_len a0; have := numI_len a1; have := numI_len a2; have := numI_len a3; have := numI_len a4; have := numI_len a5; have := numI_len a6; have := numI_len a7
    simp only [vecB, List.flatMap_cons, List.flatMap_nil, List.length_append, List.length_nil]
    omega
  haveI : ∀ c g m : Nat, OC Tryz.prog 228 [.o (.ptr c g 0), .a (v8L v)] [(c, (m, some (.abs (wrA bs))))] [] (m = g + 1) (.tup []) [(c, (m, some (.abs (wrA (bs ++ vecB v)))))] := fun c g m => ⟨fun hm => by
    obtain rfl := hm
    rw [← vV8 h8]
    have := (wvec_o g bs v h8 hv.2 (by omega)).one c
    rw [List.map_cons, List.map_cons, ren_vV] at this
    exact this⟩
  have b1 : l.length < 18446744073709551616 := by omega
  have hnl := numI_len (l.length : Int)
  rw [numI_nat] at hnl
  have hB : cartB (v, l) = vecB v ++ numB l.length ++ l.flatMap entB := by unfold cartB; rw [List.append_assoc]
  have hB0 : (bs ++ vecB v).length ≤ 1000000000 := by rw [List.length_append]; omega
  rw [hB, ← List.append_assoc, ← List.append_assoc]
  repeat' (first | refine rnC ?_ | refine rnSB ?_ | refine rnG ?_ | refine rnU ?_ | ((fail_if_success (refine rnKn ?_)); refine rnP ?_ ?_ <;> (intro hq; try (have hq' := hq; simp only [hqs] at hq'))) | refine rkC ?_ | refine rkSB ?_ | refine rkF ?_ | refine rkU ?_ | ((fail_if_success (refine rkKn ?_)); refine rkP ?_ ?_ <;> (intro hq; try (have hq' := hq; simp only [hqs] at hq'))) | refine stp ?_ | refine ifT ?_ | refine ifF ?_ | (refine ifQ ?_ ?_ <;> (try (intro hn))) | (refine ifB ?_ ?_ <;> (intro hq; try (have hq' := hq; simp only [hqs] at hq'))))
  have hB1 : (bs ++ vecB v ++ numB l.length).length ≤ 800000100 := by rw [List.length_append, List.length_append]; omega
  generalize bs ++ vecB v ++ numB l.length = B0 at hB1 ⊢
  refine aws_loopS [5, 22, 23, 24, 25, 26, 27, 28, 29, 30, 31, 32, 33, 34, 35, 36, 37, 38, 39, 40, 41, 42, 43, 44] [1000, 5] (fun (x : Nat × List Nat × Option MO) => [(22, .p (.i x.1))]) (fun x => [(1000, (n + 1, some (.abs (wrA x.2.1)))), (5, (x.1, x.2.2))]) (fun x => x.1 ≤ l.length ∧ x.2.1 = B0 ++ (l.take x.1).flatMap entB ∧ x.2.1.length ≤ B0.length + 36 * x.1) (fun x => l.length - x.1) (0, B0, none) ⟨Nat.zero_le _, by simp, by simp⟩ (by exact knA) (by exact knA) ?_
  rintro ⟨i, L, c5⟩ β γ ⟨hi, hL, hll⟩
  dsimp only at hi hL hll ⊢
  by_cases hil : i < l.length
  · have d2 : decide ((i : Int) < (l.length : Int)) = true := decide_eq_true (by omega)
    have ei : (i : Int).toNat = i := Int.toNat_natCast i
    have hft := flat_take entB hil
    rw [← ei] at hft
    obtain ⟨e, he⟩ : ∃ e, e = l.getD (i : Int).toNat default := ⟨_, rfl⟩
    have hek := hes e (by rw [he, ei, getD_at hil]; exact List.getElem_mem _)
    obtain ⟨k1, k2, k3, k4⟩ := hek
    have n1 := numI_len e.1
    have n2 := numI_len e.2.1
    have n3 := numI_len e.2.2.1
    have n4 := numI_len ((zig e.2.2.2 : Nat) : Int)
    rw [numI_nat] at n4
    have n4' : (intB e.2.2.2).length ≤ 9 := n4
    have g1 : L.length ≤ 1000000000 := by omega
    have g2 : (L ++ numI e.1).length ≤ 1000000000 := by rw [List.length_append]; omega
    have g3 : (L ++ numI e.1 ++ numI e.2.1).length ≤ 1000000000 := by rw [List.length_append, List.length_append]; omega
    have g4 : (L ++ numI e.1 ++ numI e.2.1 ++ numI e.2.2.1).length ≤ 1000000000 := by rw [List.length_append, List.length_append, List.length_append]; omega
    have g5 : (L ++ numI e.1 ++ numI e.2.1 ++ numI e.2.2.1 ++ intB e.2.2.2).length ≤ B0.length + 36 * (i + 1) := by rw [List.length_append, List.length_append, List.length_append, List.length_append]; omega
    have hn : L ++ numI e.1 ++ numI e.2.1 ++ numI e.2.2.1 ++ intB e.2.2.2 = B0 ++ (l.take (i + 1)).flatMap entB := by
      rw [show (i : Int).toNat = i from ei] at hft he
      rw [hft, hL, ← he]
      simp only [entB, List.append_assoc]
    have w1 : IntKind.u64.wrap e.1 = e.1 := u64_in (by omega)
    have w2 : IntKind.u64.wrap e.2.1 = e.2.1 := u64_in (by omega)
    have k1' : 0 ≤ e.1 ∧ e.1 < 18446744073709551616 := by omega
    have k2' : 0 ≤ e.2.1 ∧ e.2.1 < 18446744073709551616 := by omega
    have k4' : -9223372036854775808 ≤ e.2.2.2 ∧ e.2.2.2 ≤ 9223372036854775807 := by omega
    clear hft hL n1 n2 n3 n4 n4' k1 k2 k4
    subst he
    as_aux_lemma =>
      repeat' (first | refine rnC ?_ | refine rnSB ?_ | refine rnG ?_ | refine rnU ?_ | ((fail_if_success (refine rnKn ?_)); refine rnP ?_ ?_ <;> (intro hq; try (have hq' := hq; simp only [hqs] at hq'))) | refine rkC ?_ | refine rkSB ?_ | refine rkF ?_ | refine rkU ?_ | ((fail_if_success (refine rkKn ?_)); refine rkP ?_ ?_ <;> (intro hq; try (have hq' := hq; simp only [hqs] at hq'))) | refine stp ?_ | refine ifT ?_ | refine ifF ?_ | (refine ifQ ?_ ?_ <;> (try (intro hn))) | (refine ifB ?_ ?_ <;> (intro hq; try (have hq' := hq; simp only [hqs] at hq'))))
      exact ⟨(i + 1, _, _), _, by dsimp only; omega, ⟨by dsimp only; omega, hn, g5⟩, .refl, by exact frA⟩
  · have d2 : decide ((i : Int) < (l.length : Int)) = false := decide_eq_false (by omega)
    rw [List.take_of_length_le (by omega)] at hL
    rw [← hL]
    as_aux_lemma =>
      repeat' (first | refine rnC ?_ | refine rnSB ?_ | refine rnG ?_ | refine rnU ?_ | ((fail_if_success (refine rnKn ?_)); refine rnP ?_ ?_ <;> (intro hq; try (have hq' := hq; simp only [hqs] at hq'))) | refine rkC ?_ | refine rkSB ?_ | refine rkF ?_ | refine rkU ?_ | ((fail_if_success (refine rkKn ?_)); refine rkP ?_ ?_ <;> (intro hq; try (have hq' := hq; simp only [hqs] at hq'))) | refine stp ?_ | refine ifT ?_ | refine ifF ?_ | (refine ifQ ?_ ?_ <;> (try (intro hn))) | (refine ifB ?_ ?_ <;> (intro hq; try (have hq' := hq; simp only [hqs] at hq'))))
      exact RetO.mk (res0 rfl rfl) ⟨.abs, trivial⟩
instance put_i {c g n : Nat} {bs : List Nat} {v : List Int} {l : List Ent} {ex : Bool} : OC Tryz.prog 178 [.o (.ptr c g 0), cV v l ex] [(c, (n, some (.abs (wrA bs))))] [] (n = g + 1 ∧ vecOk v ∧ rightF v l = true ∧ bs.length ≤ 800000000) (.tup []) [(c, (n, some (.abs (wrA (bs ++ cartB (v, l))))))] := ⟨fun h => by obtain ⟨rfl, h1, h2, h3⟩ := h; exact (put_ok g bs v l ex h1 h2 h3).one c⟩
end Go.Proofs.YtclcfjejpogdlaaGreat.Wi
namespace Go.Proofs.YtclcfjejpogdlaaGreat.Wi
open Go Go.RowKit Go.Aw Go.Aw.Cart Go.Proofs.YtclcfjejpogdlaaGreat.Ca
set_option linter.unusedVariables false
set_option linter.unusedSimpArgs false
set_option maxRecDepth 8000
set_option maxHeartbeats 4000000
open W7
theorem entry_o (n : Nat) (r : RS) (hr : rdOk r) : OCall Tryz.prog 236 [.o (.ptr 1000 n 0)] (memL [(1000, (n + 1, some (rdM r)))]) (eV (entS r).1) (memL [(1000, (n + 1, some (rdM (entS r).2)))]) := by
  refine ocall_of1 Tryz.func236 rfl (fun w0 F S0 M0 => ?_)
  obtain ⟨a, r1, h1⟩ : ∃ a r1, smallS 60 r = (a, r1) := ⟨(smallS 60 r).1, (smallS 60 r).2, rfl⟩
  have o1 : rdOk r1 := by have := (par_small 60).rd hr; rwa [h1] at this
  obtain ⟨b, r2, h2⟩ : ∃ b r2, smallS 8 r1 = (b, r2) := ⟨(smallS 8 r1).1, (smallS 8 r1).2, rfl⟩
  have o2 : rdOk r2 := by have := (par_small 8).rd o1; rwa [h2] at this
  obtain ⟨c, r3, h3⟩ : ∃ c r3, numS r2 = (c, r3) := ⟨(numS r2).1, (numS r2).2, rfl⟩
  have o3 : rdOk r3 := by have := par_num.rd o2; rwa [h3] at this
  obtain ⟨d, r4, h4⟩ : ∃ d r4, intS r3 = (d, r4) := ⟨(intS r3).1, (intS r3).2, rfl⟩
  have e : entS r = ((a, b, (c : Int), d), r4) := by
    simp only [entS, numZ, bindS, pureS, h1, h2, h3, h4]
  rw [e]
  haveI : ∀ p g m : Nat, OC Tryz.prog 97 [.o (.ptr p g 0), .p (.i 60)] [(p, (m, some (rdM r)))] [] (m = g + 1) (.p (.i a)) [(p, (m, some (rdM r1)))] := fun p g m => ⟨fun h => by obtain rfl := h; have := (small_o g r 60 (by decide) hr.1 hr.2).one p; rwa [h1] at this⟩
  haveI : ∀ p g m : Nat, OC Tryz.prog 97 [.o (.ptr p g 0), .p (.i 8)] [(p, (m, some (rdM r1)))] [] (m = g + 1) (.p (.i b)) [(p, (m, some (rdM r2)))] := fun p g m => ⟨fun h => by obtain rfl := h; have := (small_o g r1 8 (by decide) o1.1 o1.2).one p; rwa [h2] at this⟩
  haveI : ∀ p g m : Nat, OC Tryz.prog 135 [.o (.ptr p g 0)] [(p, (m, some (rdM r2)))] [] (m = g + 1) (.p (.k .u64 (c : Int))) [(p, (m, some (rdM r3)))] := fun p g m => ⟨fun h => by obtain rfl := h; have := (rnum_o g r2 o2.1 o2.2).one p; rwa [h3] at this⟩
  haveI : ∀ p g m : Nat, OC Tryz.prog 211 [.o (.ptr p g 0)] [(p, (m, some (rdM r3)))] [] (m = g + 1) (.p (.i d)) [(p, (m, some (rdM r4)))] := fun p g m => ⟨fun h => by obtain rfl := h; have := (rint_o g r3 o3).one p; rwa [h4] at this⟩
  clear e h1 h2 h3 h4
  as_aux_lemma =>
    repeat' (first | refine rnC ?_ | refine rnSB ?_ | refine rnG ?_ | refine rnU ?_ | ((fail_if_success (refine rnKn ?_)); refine rnP ?_ ?_ <;> (intro hq; try (have hq' := hq; simp only [hqs] at hq'))) | refine rkC ?_ | refine rkSB ?_ | refine rkF ?_ | refine rkU ?_ | ((fail_if_success (refine rkKn ?_)); refine rkP ?_ ?_ <;> (intro hq; try (have hq' := hq; simp only [hqs] at hq'))) | refine stp ?_ | refine ifT ?_ | refine ifF ?_ | (refine ifQ ?_ ?_ <;> (try (intro hn))) | (refine ifB ?_ ?_ <;> (intro hq; try (have hq' := hq; simp only [hqs] at hq'))))
    exact RetO.mk (oc1 rfl rfl rfl rfl rfl rfl finL_p rfl) ⟨.box finL_p, trivial⟩
end Go.Proofs.YtclcfjejpogdlaaGreat.Wi
