/- dots: as bytes, and out of bytes -/
import Derived.Test.YtgiekdhipbikoaaCd4
import Derived.Test.YtgiekdhipbikoaaCw4
import Derived.Test.YtgiekdhipbikoaaCa4
namespace Go.Proofs.Ytgiekdhipbikoaa.Ca
open Go Go.RowKit Go.Aw Go.Aw.Cart Go.Proofs.Ytgiekdhipbikoaa.Wi
set_option linter.unusedVariables false
set_option linter.unusedSimpArgs false
set_option maxRecDepth 8000
set_option maxHeartbeats 4000000
def dotB (d : Dot) : List Nat := numB d.1.toNat ++ numB d.2.toNat
theorem numB_len (x : Nat) : (numB x).length ≤ 9 := by
  have := beF_le 8 x
  unfold numB be
  rw [List.length_cons]; omega
theorem dotB_len (d : Dot) : (dotB d).length ≤ 18 := by
  have h1 := numB_len d.1.toNat
  have h2 := numB_len d.2.toNat
  unfold dotB
  rw [List.length_append]; omega
def dotsB (l : List Dot) : List Nat := numB l.length ++ l.flatMap dotB
namespace D6
theorem lopC {C : Ctx} {o : Oper} {σ : St} {e : Eff} {ro : Nat → Bool} (h : LOp C o σ e ro := by
    first
      | exact W4.lopC
      | (apply lop_ap_pair; (focus rfl); (focus exact inferInstance); (focus exact inferInstance); (focus exact inferInstance); (focus rfl); (focus rfl); (focus rfl); (focus rfl); (focus rfl); (focus rfl); (focus first | (simp only [maxLen, List.length_append, List.length_cons, List.length_nil, List.length_take, List.length_drop, List.length_map]; omega) | omega); (focus first | (simp only [maxLen, List.length_append, List.length_cons, List.length_nil, List.length_take, List.length_drop, List.length_map]; omega) | omega); (focus rfl))
      | exact lopY
      | fail) : LOp C o σ e ro := h
section steps
variable {C : Ctx} {ops : Array Oper} {o : Oper} {rest : List Oper} {K : St → Prop} {σ : St} {e : Eff} {ro : Nat → Bool} {W : List (Nat × Nat)} {i : Nat}
theorem rnC {d : Nat} (hk : RunN C ops rest K (e.app (some d) σ)) (hg : Guard ops σ o true := by first | exact gd_n rfl rfl | exact gd_t rfl rfl rfl rfl | exact gd_t rfl rfl rfl (by assumption)) (hd : o.dst = some d := by rfl) (h : LOp C o σ e ro := by exact lopC) : RunN C ops (o :: rest) K σ := rn_any hg hd h hk
theorem rkC {d : Nat} (hk : RunK C ops W (i + 1) rest K (e.app (some d) σ)) (hg : Guard ops σ o true := by first | exact gd_n rfl rfl | exact gd_t rfl rfl rfl rfl | exact gd_t rfl rfl rfl (by assumption)) (hd' : o.dst = some d := by rfl) (hd : dOk C o.dst = true := by rfl) (h : LOp C o σ e ro := by exact lopC)
    (hro : ∀ x, ro x = true → okObj ops W i x = true := by first | exact fun _ => ro_none | exact ro_one rfl | exact ro_k1 rfl | exact ro_one (by kernel_rfl) | exact ro_k1 (by kernel_rfl) | exact ro_kIn (by decide)) (hob : ∀ p ∈ e.obj, (i, p.1) ∈ W := by first | exact ob_none | exact ob_one (by decide) | decide) : RunK C ops W i (o :: rest) K σ := rk_wr hg hd' hd h hro hob hk
end steps
end D6
open D6
theorem vput_o (n : Nat) (bs : List Nat) (d : Dot) (h1 : d.1 ≤ 9223372036854775807) (h2 : 0 ≤ d.2 ∧ d.2 < 18446744073709551616) (h : bs.length ≤ 100000000) : OCall Try.prog 77 [.o (.ptr 1000 n 0), dV d] (memL [(1000, (n + 1, some (.abs (wrA bs))))]) (.tup []) (memL [(1000, (n + 1, some (.abs (wrA (bs ++ dotB d)))))]) := by
  obtain ⟨a, b⟩ := d
  dsimp only at h1 h2 ⊢
  obtain ⟨b, rfl⟩ : ∃ k : Nat, b = k := ⟨b.toNat, by omega⟩
  refine ocall_of1 Try.func77 rfl (fun w0 F S0 M0 => ?_)
  have hb : b < 18446744073709551616 := by omega
  by_cases h0 : 0 ≤ a
  · obtain ⟨a, rfl⟩ : ∃ k : Nat, a = k := ⟨a.toNat, by omega⟩
    have ha : a % md .u64 < 18446744073709551616 := Nat.mod_lt _ (by decide)
    have hl : (bs ++ numB (a % md .u64)).length ≤ 1000000000 := by
      have := numB_len (a % md .u64)
      rw [List.length_append]; omega
    have hl1 : bs.length ≤ 1000000000 := by omega
    have e : bs ++ dotB ((a : Int), (b : Int)) = bs ++ numB (a % md .u64) ++ numB b := by
      unfold dotB
      rw [Nat.mod_eq_of_lt (by show a < 18446744073709551616; omega), List.append_assoc]; rfl
    rw [e]
    as_aux_lemma =>
      repeat' (first
          | refine rnC ?_
          | refine rnSB ?_
          | refine rnG ?_
          | refine rnU ?_
          | ((fail_if_success (refine rnKn ?_)); refine rnP ?_ ?_ <;> (intro hq; try (have hq' := hq; simp only [hqs] at hq')))
          | refine rkC ?_
          | refine rkSB ?_
          | refine rkF ?_
          | refine rkU ?_
          | ((fail_if_success (refine rkKn ?_)); refine rkP ?_ ?_ <;> (intro hq; try (have hq' := hq; simp only [hqs] at hq')))
          | refine stp ?_
          | refine ifT ?_
          | refine ifF ?_
          | (refine ifQ ?_ ?_ <;> (try (intro hn)))
          | (refine ifB ?_ ?_ <;> (intro hq; try (have hq' := hq; simp only [hqs] at hq'))))
      exact RetO.mk (res0 rfl rfl) ⟨.abs, trivial⟩
  · have ha : 0 % md .u64 < 18446744073709551616 := by decide
    have hl : (bs ++ numB (0 % md .u64)).length ≤ 1000000000 := by
      have := numB_len (0 % md .u64)
      rw [List.length_append]; omega
    have hl1 : bs.length ≤ 1000000000 := by omega
    have e : bs ++ dotB (a, (b : Int)) = bs ++ numB (0 % md .u64) ++ numB b := by
      unfold dotB
      rw [show (a, (b : Int)).1.toNat = 0 by show a.toNat = 0; omega, List.append_assoc]; rfl
    rw [e]
    as_aux_lemma =>
      repeat' (first
          | refine rnC ?_
          | refine rnSB ?_
          | refine rnG ?_
          | refine rnU ?_
          | ((fail_if_success (refine rnKn ?_)); refine rnP ?_ ?_ <;> (intro hq; try (have hq' := hq; simp only [hqs] at hq')))
          | refine rkC ?_
          | refine rkSB ?_
          | refine rkF ?_
          | refine rkU ?_
          | ((fail_if_success (refine rkKn ?_)); refine rkP ?_ ?_ <;> (intro hq; try (have hq' := hq; simp only [hqs] at hq')))
          | refine stp ?_
          | refine ifT ?_
          | refine ifF ?_
          | (refine ifQ ?_ ?_ <;> (try (intro hn)))
          | (refine ifB ?_ ?_ <;> (intro hq; try (have hq' := hq; simp only [hqs] at hq'))))
      exact RetO.mk (res0 rfl rfl) ⟨.abs, trivial⟩
instance vput_i {c g n : Nat} {bs : List Nat} {d : Dot} : OC Try.prog 77 [.o (.ptr c g 0), dV d] [(c, (n, some (.abs (wrA bs))))] [] (n = g + 1 ∧ d.1 ≤ 9223372036854775807 ∧ (0 ≤ d.2 ∧ d.2 < 18446744073709551616) ∧ bs.length ≤ 100000000) (.tup []) [(c, (n, some (.abs (wrA (bs ++ dotB d)))))] := ⟨fun h => by obtain ⟨rfl, h1, h2, h3⟩ := h; exact (vput_o g bs d h1 h2 h3).one c⟩
/-- a dot that Go can hold -/
def DQ (d : Dot) : Prop := d.1 ≤ 9223372036854775807 ∧ 0 ≤ d.2 ∧ d.2 < 18446744073709551616
theorem dput_o (n : Nat) (bs : List Nat) (l : List Dot) (ex : Bool) (hd : ∀ d ∈ l, DQ d) (hl : l.length ≤ 100000) (h : bs.length ≤ 10000000) : OCall Try.prog 44 [.o (.ptr 1000 n 0), .p (.sl 2 (l.map dR) ex)] (memL [(1000, (n + 1, some (.abs (wrA bs))))]) (.tup []) (memL [(1000, (n + 1, some (.abs (wrA (bs ++ dotsB l)))))]) := by
  refine ocall_of1 Try.func44 rfl (fun w0 F S0 M0 => ?_)
  have hq : l.length % md .u64 < 18446744073709551616 := Nat.mod_lt _ (by decide)
  have hbs : bs.length ≤ 1000000000 := by omega
  have flen : ∀ i, ((l.take i).flatMap dotB).length ≤ 18 * i := by
    intro i
    induction i with
    | zero => simp
    | succ i ih =>
      by_cases hi : i < l.length
      · rw [take_get' hi, List.flatMap_append, List.length_append, List.flatMap_cons, List.flatMap_nil, List.append_nil]
        have := dotB_len (l.getD i default)
        omega
      · rw [List.take_of_length_le (by omega)]
        rw [List.take_of_length_le (by omega)] at ih
        omega
  repeat' (first
      | refine rnC ?_
      | refine rnSB ?_
      | refine rnG ?_
      | refine rnU ?_
      | ((fail_if_success (refine rnKn ?_)); refine rnP ?_ ?_ <;> (intro hq; try (have hq' := hq; simp only [hqs] at hq')))
      | refine rkC ?_
      | refine rkSB ?_
      | refine rkF ?_
      | refine rkU ?_
      | ((fail_if_success (refine rkKn ?_)); refine rkP ?_ ?_ <;> (intro hq; try (have hq' := hq; simp only [hqs] at hq')))
      | refine stp ?_
      | refine ifT ?_
      | refine ifF ?_
      | (refine ifQ ?_ ?_ <;> (try (intro hn)))
      | (refine ifB ?_ ?_ <;> (intro hq; try (have hq' := hq; simp only [hqs] at hq'))))
  refine aws_loopS [5, 13, 14, 15, 16, 17, 18, 19, 20] [1000, 5] (fun (x : Nat × List Nat × Option MO) => [(13, .p (.i x.1))]) (fun x => [(1000, (n + 1, some (.abs (wrA x.2.1)))), (5, (x.1, x.2.2))])
    (fun x => x.1 ≤ l.length ∧ x.2.1 = bs ++ numB (l.length % md .u64) ++ (l.take x.1).flatMap dotB) (fun x => l.length - x.1) (0, bs ++ numB (l.length % md .u64), none) ⟨Nat.zero_le _, by simp⟩ (by exact knA) (by exact knA) ?_
  rintro ⟨i, L, c5⟩ β γ ⟨hi, hL⟩
  simp only at hi hL
  dsimp only
  by_cases hil : i < l.length
  · have hlt : decide ((i : Int) < (l.length : Int)) = true := decide_eq_true (by omega)
    have hLl : L.length ≤ 100000000 := by
      have h1 := flen i
      have h2 := numB_len (l.length % md .u64)
      rw [hL, List.length_append, List.length_append]; omega
    have hdq := hd (l.getD (i : Int).toNat default) (by rw [Int.toNat_natCast, getD_at hil]; exact List.getElem_mem _)
    obtain ⟨q1, q2, q3⟩ := hdq
    as_aux_lemma =>
      repeat' (first
          | refine rnC ?_
          | refine rnSB ?_
          | refine rnG ?_
          | refine rnU ?_
          | ((fail_if_success (refine rnKn ?_)); refine rnP ?_ ?_ <;> (intro hq; try (have hq' := hq; simp only [hqs] at hq')))
          | refine rkC ?_
          | refine rkSB ?_
          | refine rkF ?_
          | refine rkU ?_
          | ((fail_if_success (refine rkKn ?_)); refine rkP ?_ ?_ <;> (intro hq; try (have hq' := hq; simp only [hqs] at hq')))
          | refine stp ?_
          | refine ifT ?_
          | refine ifF ?_
          | (refine ifQ ?_ ?_ <;> (try (intro hn)))
          | (refine ifB ?_ ?_ <;> (intro hq; try (have hq' := hq; simp only [hqs] at hq'))))
      refine ⟨(i + 1, L ++ dotB (l.getD (i : Int).toNat default), some (.box 25 (dL (l.getD (i : Int).toNat default)))), _, by dsimp only; omega, ⟨by dsimp only; omega, ?_⟩, .refl, by exact frA⟩
      dsimp only
      rw [take_get' hil, List.flatMap_append, hL, Int.toNat_natCast]
      simp
  · have hlt : decide ((i : Int) < (l.length : Int)) = false := decide_eq_false (by omega)
    have e : bs ++ dotsB l = L := by
      rw [hL, List.take_of_length_le (by omega), Nat.mod_eq_of_lt (by show l.length < 18446744073709551616; omega)]
      unfold dotsB
      rw [List.append_assoc]
    rw [e]
    as_aux_lemma =>
      repeat' (first
          | refine rnC ?_
          | refine rnSB ?_
          | refine rnG ?_
          | refine rnU ?_
          | ((fail_if_success (refine rnKn ?_)); refine rnP ?_ ?_ <;> (intro hq; try (have hq' := hq; simp only [hqs] at hq')))
          | refine rkC ?_
          | refine rkSB ?_
          | refine rkF ?_
          | refine rkU ?_
          | ((fail_if_success (refine rkKn ?_)); refine rkP ?_ ?_ <;> (intro hq; try (have hq' := hq; simp only [hqs] at hq')))
          | refine stp ?_
          | refine ifT ?_
          | refine ifF ?_
          | (refine ifQ ?_ ?_ <;> (try (intro hn)))
          | (refine ifB ?_ ?_ <;> (intro hq; try (have hq' := hq; simp only [hqs] at hq'))))
      exact RetO.mk (res0 rfl rfl) ⟨.abs, trivial⟩
instance dput_i {c g n : Nat} {bs : List Nat} {l : List Dot} {ex : Bool} : OC Try.prog 44 [.o (.ptr c g 0), .p (.sl 2 (l.map dR) ex)] [(c, (n, some (.abs (wrA bs))))] [] (n = g + 1 ∧ (∀ d ∈ l, DQ d) ∧ l.length ≤ 100000 ∧ bs.length ≤ 10000000) (.tup []) [(c, (n, some (.abs (wrA (bs ++ dotsB l)))))] := ⟨fun h => by obtain ⟨rfl, h1, h2, h3⟩ := h; exact (dput_o g bs l ex h1 h2 h3).one c⟩
/-! out of bytes -/
def takeR1 (r : RS) : RS := mustS (dotF ((smallS 8 r).1, ((numS (smallS 8 r).2).1 : Int))) (numS (smallS 8 r).2).2
def takeD (r : RS) : Dot × RS := (if (takeR1 r).2 = 0 then ((smallS 8 r).1, ((numS (smallS 8 r).2).1 : Int)) else (0, 0), takeR1 r)
theorem small_byte {most : Int} {r : RS} (h : ∀ b ∈ r.1, b < 256) : ∀ b ∈ (smallS most r).2.1, b < 256 := by
  unfold smallS
  dsimp only
  rw [must_1]; exact numS_byte h
theorem small_len {most : Int} (r : RS) : (smallS most r).2.1.length ≤ r.1.length := by
  unfold smallS
  dsimp only
  rw [must_1]; exact numS_len r
theorem takeD_byte {r : RS} (h : ∀ b ∈ r.1, b < 256) : ∀ b ∈ (takeD r).2.1, b < 256 := by
  unfold takeD takeR1
  dsimp only
  rw [must_1]; exact numS_byte (small_byte h)
theorem takeD_len (r : RS) : (takeD r).2.1.length ≤ r.1.length := by
  unfold takeD takeR1
  dsimp only
  rw [must_1]
  exact Nat.le_trans (numS_len _) (small_len r)
theorem vtake_o (n : Nat) (r : RS) (hb : ∀ b ∈ r.1, b < 256) (hl : r.1.length ≤ 1000000000) : OCall Try.prog 80 [.o (.ptr 1000 n 0)] (memL [(1000, (n + 1, some (rdM r)))]) (dV (takeD r).1) (memL [(1000, (n + 1, some (rdM (takeD r).2)))]) := by
  refine ocall_of1 Try.func80 rfl (fun w0 F S0 M0 => ?_)
  have h1 := small_byte (most := 8) hb
  have h2 : (smallS 8 r).2.1.length ≤ 1000000000 := Nat.le_trans (small_len r) hl
  unfold takeD
  have cr := dotR_w ((smallS 8 r).1, ((numS (smallS 8 r).2).1 : Int))
  haveI : PC Try.prog 48 [.a [.p (.i (smallS 8 r).1), .p (.k .u64 ((numS (smallS 8 r).2).1 : Int))]] True (.p (.b (dotF ((smallS 8 r).1, ((numS (smallS 8 r).2).1 : Int))))) := ⟨fun _ => cr⟩
  by_cases hz : (takeR1 r).2 = 0
  · have d1 : decide ((takeR1 r).2 ≠ 0) = false := decide_eq_false fun q => q hz
    rw [if_pos hz]
    as_aux_lemma =>
      repeat' (first
          | refine rnC ?_
          | refine rnSB ?_
          | refine rnG ?_
          | refine rnU ?_
          | ((fail_if_success (refine rnKn ?_)); refine rnP ?_ ?_ <;> (intro hq; try (have hq' := hq; simp only [hqs] at hq')))
          | refine rkC ?_
          | refine rkSB ?_
          | refine rkF ?_
          | refine rkU ?_
          | ((fail_if_success (refine rkKn ?_)); refine rkP ?_ ?_ <;> (intro hq; try (have hq' := hq; simp only [hqs] at hq')))
          | refine stp ?_
          | refine ifT ?_
          | refine ifF ?_
          | (refine ifQ ?_ ?_ <;> (try (intro hn)))
          | (refine ifB ?_ ?_ <;> (intro hq; try (have hq' := hq; simp only [hqs] at hq'))))
      exact RetO.mk (oc1 rfl rfl rfl rfl rfl rfl finL_p rfl) ⟨.box finL_p, trivial⟩
  · have d1 : decide ((takeR1 r).2 ≠ 0) = true := decide_eq_true hz
    rw [if_neg hz]
    as_aux_lemma =>
      repeat' (first
          | refine rnC ?_
          | refine rnSB ?_
          | refine rnG ?_
          | refine rnU ?_
          | ((fail_if_success (refine rnKn ?_)); refine rnP ?_ ?_ <;> (intro hq; try (have hq' := hq; simp only [hqs] at hq')))
          | refine rkC ?_
          | refine rkSB ?_
          | refine rkF ?_
          | refine rkU ?_
          | ((fail_if_success (refine rkKn ?_)); refine rkP ?_ ?_ <;> (intro hq; try (have hq' := hq; simp only [hqs] at hq')))
          | refine stp ?_
          | refine ifT ?_
          | refine ifF ?_
          | (refine ifQ ?_ ?_ <;> (try (intro hn)))
          | (refine ifB ?_ ?_ <;> (intro hq; try (have hq' := hq; simp only [hqs] at hq'))))
      exact RetO.mk (oc1 rfl rfl rfl rfl rfl rfl finL_p rfl) ⟨.box finL_p, trivial⟩
instance vtake_i {c g n : Nat} {r : RS} : OC Try.prog 80 [.o (.ptr c g 0)] [(c, (n, some (rdM r)))] [] (n = g + 1 ∧ (∀ b ∈ r.1, b < 256) ∧ r.1.length ≤ 1000000000) (dV (takeD r).1) [(c, (n, some (rdM (takeD r).2)))] := ⟨fun h => by obtain ⟨rfl, h1, h2⟩ := h; exact (vtake_o g r h1 h2).one c⟩
/-- dots, as long as there is no fault -/
def tkTo : Nat → List Dot × RS → List Dot × RS
  | 0, x => x
  | n + 1, x => if x.2.2 = 0 then tkTo n (x.1 ++ [(takeD x.2).1], (takeD x.2).2) else x
def tkAll (r : RS) : List Dot × RS := tkTo (smallS 2000 r).1.toNat ([], (smallS 2000 r).2)
def takesD (r : RS) : List Dot × RS := (if (mustS (dRightF (tkAll r).1) (tkAll r).2).2 = 0 then (tkAll r).1 else [], mustS (dRightF (tkAll r).1) (tkAll r).2)
theorem small_in {most : Int} {r : RS} (h0 : 0 ≤ most) : 0 ≤ (smallS most r).1 ∧ (smallS most r).1 ≤ most := by
  unfold smallS
  dsimp only
  split
  · rename_i hz
    refine ⟨by omega, ?_⟩
    unfold mustS at hz
    split at hz
    · cases hz
    · rename_i k
      by_cases q : ((numS r).1 : Int) ≤ most
      · exact q
      · have hn : (numS r).2.2 ≠ 0 := fun e => k ⟨e, by rw [decide_eq_false q, Bool.and_false]⟩
        exact absurd hz hn
  · omega
theorem dtake_o (n : Nat) (r : RS) (hb : ∀ b ∈ r.1, b < 256) (hl : r.1.length ≤ 1000000000) : OCall Try.prog 45 [.o (.ptr 1000 n 0)] (memL [(1000, (n + 1, some (rdM r)))]) (.p (.sl 2 ((takesD r).1.map dR) false)) (memL [(1000, (n + 1, some (rdM (takesD r).2)))]) := by
  refine ocall_of1 Try.func45 rfl (fun w0 F S0 M0 => ?_)
  obtain ⟨s0, s2⟩ := small_in (most := 2000) (r := r) (by decide)
  have h1 := small_byte (most := 2000) hb
  have h2 : (smallS 2000 r).2.1.length ≤ 1000000000 := Nat.le_trans (small_len r) hl
  obtain ⟨T, hT⟩ : ∃ T, T = tkAll r := ⟨_, rfl⟩
  obtain ⟨q, hq⟩ : ∃ q : Nat, (smallS 2000 r).1 = q := ⟨(smallS 2000 r).1.toNat, by omega⟩
  have hT0 : T = tkTo q ([], (smallS 2000 r).2) := by rw [hT, tkAll, hq, Int.toNat_natCast]
  unfold takesD
  rw [← hT]
  repeat' (first
      | refine rnC ?_
      | refine rnSB ?_
      | refine rnG ?_
      | refine rnU ?_
      | ((fail_if_success (refine rnKn ?_)); refine rnP ?_ ?_ <;> (intro hq; try (have hq' := hq; simp only [hqs] at hq')))
      | refine rkC ?_
      | refine rkSB ?_
      | refine rkF ?_
      | refine rkU ?_
      | ((fail_if_success (refine rkKn ?_)); refine rkP ?_ ?_ <;> (intro hq; try (have hq' := hq; simp only [hqs] at hq')))
      | refine stp ?_
      | refine ifT ?_
      | refine ifF ?_
      | (refine ifQ ?_ ?_ <;> (try (intro hn)))
      | (refine ifB ?_ ?_ <;> (intro hq; try (have hq' := hq; simp only [hqs] at hq'))))
  rw [hq]
  refine aws_says (says_nil (t := 3) (o := 900) (ty := 25) (es := 2) rfl rfl (by decide)) ?_
  refine aws_loopS [3, 6, 7, 8, 9, 10, 11, 12, 13, 14, 15, 16] [1000, 900] (fun (x : Nat × List Dot × RS) => [(6, .p (.i x.1)), (3, .o (.osl 900 x.1 2 0 x.2.1.length))]) (fun x => [(1000, (n + 1, some (rdM x.2.2))), (900, (x.1 + 1, some (.buf 25 2 (x.2.1.map dR))))])
    (fun x => x.1 ≤ q ∧ x.2.1.length = x.1 ∧ (∀ b ∈ x.2.2.1, b < 256) ∧ x.2.2.1.length ≤ 1000000000 ∧ T = tkTo (q - x.1) x.2) (fun x => q - x.1) (0, [], (smallS 2000 r).2) ⟨Nat.zero_le _, rfl, h1, h2, hT0⟩ (by exact knA) (by exact knA) ?_
  rintro ⟨i, L, s⟩ β γ ⟨hi, hLl, hsb, hsl, hx⟩
  simp only at hi hLl hsb hsl hx
  dsimp only
  by_cases hiq : i < q
  · have d1 : decide ((i : Int) < (q : Int)) = true := decide_eq_true (by omega)
    by_cases he : s.2 = 0
    · have d2 : decide (s.2 ≠ 0) = false := decide_eq_false fun k => k he
      as_aux_lemma =>
        repeat' (first
            | refine rnC ?_
            | refine rnSB ?_
            | refine rnG ?_
            | refine rnU ?_
            | ((fail_if_success (refine rnKn ?_)); refine rnP ?_ ?_ <;> (intro hq; try (have hq' := hq; simp only [hqs] at hq')))
            | refine rkC ?_
            | refine rkSB ?_
            | refine rkF ?_
            | refine rkU ?_
            | ((fail_if_success (refine rkKn ?_)); refine rkP ?_ ?_ <;> (intro hq; try (have hq' := hq; simp only [hqs] at hq')))
            | refine stp ?_
            | refine ifT ?_
            | refine ifF ?_
            | (refine ifQ ?_ ?_ <;> (try (intro hn)))
            | (refine ifB ?_ ?_ <;> (intro hq; try (have hq' := hq; simp only [hqs] at hq'))))
        refine ⟨(i + 1, L ++ [((takeD s).1.1, (takeD s).1.2)], (takeD s).2), _, by dsimp only; omega, ⟨by dsimp only; omega, by dsimp only; rw [List.length_append, List.length_singleton]; omega, takeD_byte hsb, Nat.le_trans (takeD_len s) hsl, ?_⟩, .refl, by exact frA⟩
        dsimp only
        rw [hx, show q - i = (q - (i + 1)) + 1 by omega, tkTo, if_pos he]
    · have d2 : decide (s.2 ≠ 0) = true := decide_eq_true he
      obtain rfl : T = (L, s) := by rw [hx, show q - i = (q - (i + 1)) + 1 by omega, tkTo, if_neg he]
      dsimp only
      have hL9 : L.length ≤ 1000000000 := by omega
      have hms : mustS (dRightF L) s = s := by unfold mustS; rw [if_neg fun k => he k.1]
      rw [if_neg (show ¬ (mustS (dRightF L) s).2 = 0 by rw [hms]; exact he)]
      refine aws_says (says_frz (t := 3) (o := 900) rfl rfl rfl (by rw [List.length_map])) ?_
      have d3 : decide ((mustS (dRightF L) s).2 ≠ 0) = true := by rw [hms]; exact d2
      as_aux_lemma =>
        repeat' (first
            | refine rnC ?_
            | refine rnSB ?_
            | refine rnG ?_
            | refine rnU ?_
            | ((fail_if_success (refine rnKn ?_)); refine rnP ?_ ?_ <;> (intro hq; try (have hq' := hq; simp only [hqs] at hq')))
            | refine rkC ?_
            | refine rkSB ?_
            | refine rkF ?_
            | refine rkU ?_
            | ((fail_if_success (refine rkKn ?_)); refine rkP ?_ ?_ <;> (intro hq; try (have hq' := hq; simp only [hqs] at hq')))
            | refine stp ?_
            | refine ifT ?_
            | refine ifF ?_
            | (refine ifQ ?_ ?_ <;> (try (intro hn)))
            | (refine ifB ?_ ?_ <;> (intro hq; try (have hq' := hq; simp only [hqs] at hq'))))
        exact RetO.mk (ot1 rfl rfl (.one .nil) rfl) ⟨.box finL_p, trivial⟩
  · have d1 : decide ((i : Int) < (q : Int)) = false := decide_eq_false (by omega)
    obtain rfl : T = (L, s) := by rw [hx, show q - i = 0 by omega, tkTo]
    dsimp only
    have hL9 : L.length ≤ 1000000000 := by omega
    refine aws_says (says_frz (t := 3) (o := 900) rfl rfl rfl (by rw [List.length_map])) ?_
    by_cases hz : (mustS (dRightF L) s).2 = 0
    · have d3 : decide ((mustS (dRightF L) s).2 ≠ 0) = false := decide_eq_false fun k => k hz
      rw [if_pos hz]
      as_aux_lemma =>
        repeat' (first
            | refine rnC ?_
            | refine rnSB ?_
            | refine rnG ?_
            | refine rnU ?_
            | ((fail_if_success (refine rnKn ?_)); refine rnP ?_ ?_ <;> (intro hq; try (have hq' := hq; simp only [hqs] at hq')))
            | refine rkC ?_
            | refine rkSB ?_
            | refine rkF ?_
            | refine rkU ?_
            | ((fail_if_success (refine rkKn ?_)); refine rkP ?_ ?_ <;> (intro hq; try (have hq' := hq; simp only [hqs] at hq')))
            | refine stp ?_
            | refine ifT ?_
            | refine ifF ?_
            | (refine ifQ ?_ ?_ <;> (try (intro hn)))
            | (refine ifB ?_ ?_ <;> (intro hq; try (have hq' := hq; simp only [hqs] at hq'))))
        exact RetO.mk (ot1 rfl rfl finS_p rfl) ⟨.box finL_p, trivial⟩
    · have d3 : decide ((mustS (dRightF L) s).2 ≠ 0) = true := decide_eq_true hz
      rw [if_neg hz]
      as_aux_lemma =>
        repeat' (first
            | refine rnC ?_
            | refine rnSB ?_
            | refine rnG ?_
            | refine rnU ?_
            | ((fail_if_success (refine rnKn ?_)); refine rnP ?_ ?_ <;> (intro hq; try (have hq' := hq; simp only [hqs] at hq')))
            | refine rkC ?_
            | refine rkSB ?_
            | refine rkF ?_
            | refine rkU ?_
            | ((fail_if_success (refine rkKn ?_)); refine rkP ?_ ?_ <;> (intro hq; try (have hq' := hq; simp only [hqs] at hq')))
            | refine stp ?_
            | refine ifT ?_
            | refine ifF ?_
            | (refine ifQ ?_ ?_ <;> (try (intro hn)))
            | (refine ifB ?_ ?_ <;> (intro hq; try (have hq' := hq; simp only [hqs] at hq'))))
        exact RetO.mk (ot1 rfl rfl (.one .nil) rfl) ⟨.box finL_p, trivial⟩
end Go.Proofs.Ytgiekdhipbikoaa.Ca
