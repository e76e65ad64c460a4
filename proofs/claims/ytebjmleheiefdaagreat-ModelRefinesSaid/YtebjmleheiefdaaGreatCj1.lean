/- joins: vectors joined; entries found; which carts clash -/
import Derived.Test.YtebjmleheiefdaaGreatCaQ
import Derived.Test.YtebjmleheiefdaaGreatKj
namespace Go.Proofs.YtebjmleheiefdaaGreat.Ca
open Go Go.RowKit Go.Aw Go.Aw.Cart Go.Aw.Ord Go.Sort
set_option linter.unusedVariables false
set_option linter.unusedSimpArgs false
set_option maxRecDepth 8000
set_option maxHeartbeats 4000000
abbrev cR (v : List Int) (l : List Ent) (ex : Bool) : List PVal := [.k .u64 (v.getD 0 default), .k .u64 (v.getD 1 default), .k .u64 (v.getD 2 default), .k .u64 (v.getD 3 default), .k .u64 (v.getD 4 default), .k .u64 (v.getD 5 default), .k .u64 (v.getD 6 default), .k .u64 (v.getD 7 default), .sl 4 (l.map eR) ex]
abbrev v8L (v : List Int) : List AC := [.p (.k .u64 (v.getD 0 default)), .p (.k .u64 (v.getD 1 default)), .p (.k .u64 (v.getD 2 default)), .p (.k .u64 (v.getD 3 default)), .p (.k .u64 (v.getD 4 default)), .p (.k .u64 (v.getD 5 default)), .p (.k .u64 (v.getD 6 default)), .p (.k .u64 (v.getD 7 default))]
abbrev v8R (v : List Int) : List PVal := [.k .u64 (v.getD 0 default), .k .u64 (v.getD 1 default), .k .u64 (v.getD 2 default), .k .u64 (v.getD 3 default), .k .u64 (v.getD 4 default), .k .u64 (v.getD 5 default), .k .u64 (v.getD 6 default), .k .u64 (v.getD 7 default)]
theorem v8L_is {v : List Int} (h : v.length = 8) : (v.map fun n => AC.p (.k .u64 n)) = v8L v := by
  match v, h with
  | [a0, a1, a2, a3, a4, a5, a6, a7], _ => rfl
theorem v8R_is {v : List Int} (h : v.length = 8) : (v.map fun n => PVal.k .u64 n) = v8R v := by
  match v, h with
  | [a0, a1, a2, a3, a4, a5, a6, a7], _ => rfl
/-! vectors -/
def mxTo (a w : List Int) : Nat → List Int
  | 0 => a
  | j + 1 => (mxTo a w j).set j (if (mxTo a w j).getD j default < w.getD j default then w.getD j default else (mxTo a w j).getD j default)
theorem mxTo_len {a w : List Int} : ∀ j, (mxTo a w j).length = a.length
  | 0 => rfl
  | j + 1 => by rw [mxTo, List.length_set, mxTo_len j]
theorem mxTo_get {a w : List Int} : ∀ j k, j ≤ a.length → (mxTo a w j).getD k default = if k < j then (if a.getD k default < w.getD k default then w.getD k default else a.getD k default) else a.getD k default
  | 0, k, _ => by rw [if_neg (Nat.not_lt_zero _)]; rfl
  | j + 1, k, h => by
    have hj := mxTo_get j j (by omega) (a := a) (w := w)
    rw [if_neg (Nat.lt_irrefl _)] at hj
    have hk := mxTo_get j k (by omega) (a := a) (w := w)
    rw [mxTo, hj, List.getD_eq_getElem?_getD, List.getElem?_set, mxTo_len]
    by_cases e : j = k
    · subst e
      rw [if_pos rfl, if_pos (show j < a.length by omega), if_pos (show j < j + 1 by omega)]; rfl
    · rw [if_neg e, ← List.getD_eq_getElem?_getD, hk]
      by_cases h2 : k < j
      · rw [if_pos h2, if_pos (show k < j + 1 by omega)]
      · rw [if_neg h2, if_neg (show ¬ k < j + 1 by omega)]
theorem mxTo_max {a w : List Int} (ha : a.length = 8) (hw : w.length = 8) : mxTo a w 8 = maxV a w :=
  maxV_ext (by rw [mxTo_len, ha]) (maxV_len ha hw) fun i hi => by rw [mxTo_get 8 i (by omega), if_pos hi, maxV_get ha hw hi]
/-- any many vectors joined -/
def joinTo (l : List (List Int)) : Nat → List Int
  | 0 => zeroV
  | i + 1 => mxTo (joinTo l i) (l.getD i default) 8
theorem joinTo_len (l : List (List Int)) : ∀ i, (joinTo l i).length = 8
  | 0 => rfl
  | i + 1 => by rw [joinTo, mxTo_len, joinTo_len l i]
namespace J1
theorem lopC {C : Ctx} {o : Oper} {σ : St} {e : Eff} {ro : Nat → Bool} (h : LOp C o σ e ro := by
    first
      | (apply gField; (focus rfl); first | exact lop_fieldAddr_p rfl rfl (by decide) rfl rfl | exact lop_fieldAddr_bx rfl rfl (by decide) rfl rfl)
            | (apply lop_bsa; (focus rfl); (focus exact inferInstance); (focus exact inferInstance); (focus exact inferInstance); (focus repeat' (first | exact All2.nil | (apply bs_cons; (focus rfl); (focus rfl); (focus rfl)))); (focus rfl); (focus decide); (focus first | decide | omega); (focus rfl); (focus rfl))
            | (apply lop_mfa1; (focus rfl); (focus rfl); (focus rfl); (focus rfl); (focus rfl); (focus rfl))
            | (apply lop_mfa2; (focus rfl); (focus rfl); (focus rfl); (focus rfl); (focus rfl); (focus rfl); (focus rfl); (focus rfl); (focus rfl); (focus decide); (focus rfl))
            | (apply lop_mfa3; (focus rfl); (focus rfl); (focus rfl); (focus rfl); (focus rfl); (focus rfl); (focus rfl); (focus rfl); (focus rfl); (focus rfl); (focus rfl); (focus rfl); (focus rfl); (focus decide); (focus decide); (focus decide); (focus rfl))
            | (apply gLoad; (focus rfl); apply lop_ld_bxp; (focus rfl); (focus exact inferInstance); (focus rfl); (focus rfl); (focus rfl); (focus rfl); (focus rfl))
      | exact lopV
      | fail) : LOp C o σ e ro := h
section steps
variable {C : Ctx} {ops : Array Oper} {o : Oper} {rest : List Oper} {K : St → Prop} {σ : St} {e : Eff} {ro : Nat → Bool} {W : List (Nat × Nat)} {i : Nat}
theorem rnC {d : Nat} (hk : RunN C ops rest K (e.app (some d) σ)) (hg : Guard ops σ o true := by first | exact gd_n rfl rfl | exact gd_t rfl rfl rfl rfl | exact gd_t rfl rfl rfl (by assumption)) (hd : o.dst = some d := by rfl) (h : LOp C o σ e ro := by exact lopC) : RunN C ops (o :: rest) K σ := rn_any hg hd h hk
theorem rkC {d : Nat} (hk : RunK C ops W (i + 1) rest K (e.app (some d) σ)) (hg : Guard ops σ o true := by first | exact gd_n rfl rfl | exact gd_t rfl rfl rfl rfl | exact gd_t rfl rfl rfl (by assumption)) (hd' : o.dst = some d := by rfl) (hd : dOk C o.dst = true := by rfl) (h : LOp C o σ e ro := by exact lopC)
    (hro : ∀ x, ro x = true → okObj ops W i x = true := by first | exact fun _ => ro_none | exact ro_one rfl | exact ro_one (by kernel_rfl) | exact ro_kIn (by decide)) (hob : ∀ p ∈ e.obj, (i, p.1) ∈ W := by first | exact ob_none | exact ob_one (by decide) | decide) : RunK C ops W i (o :: rest) K σ := rk_wr hg hd' hd h hro hob hk
end steps
end J1
open J1
theorem joinV_w (l : List (List Int)) (ex : Bool) (h : l.length ≤ 1000000000) (h8 : ∀ v ∈ l, v.length = 8) : PCall Tryz.prog 61 [.p (.sl 8 (l.map fun v => v.map fun n => PVal.k .u64 n) ex)] (.a (v8L (joinTo l l.length))) := by
  refine pcall_of Tryz.func61 rfl (fun w0 F S0 M0 => ?_)
  repeat' (first
      | refine rnC ?_
      | refine rnSB ?_
      | refine rnG ?_
      | refine rnU ?_
      | ((fail_if_success (refine rnKn ?_)); refine rnP ?_ ?_ <;> (intro hq; try (have hq' := hq; simp only [hqs] at hq')))
      | refine rkC ?_
      | refine rkSB ?_
      | refine rkF ?_
      | refine rkU ?_
      | ((fail_if_success (refine rkKn ?_)); refine rkP ?_ ?_ <;> (intro hq; try (have hq' := hq; simp only [hqs] at hq')))
      | refine stp ?_
      | refine aws_draws [] mixed (by kernel_rfl) ?_
      | refine ifT ?_
      | refine ifF ?_
      | (refine ifQ ?_ ?_ <;> (try (intro hn)))
      | (refine ifB ?_ ?_ <;> (intro hq; try (have hq' := hq; simp only [hqs] at hq'))))
  refine aws_loopS [5, 6, 7, 10, 11, 12, 13, 14, 15, 16, 17, 18, 19, 20, 21, 22, 23, 24, 25, 26, 27] [3, 5] (fun (x : Nat × List Int × Option MO) => [(10, .p (.i x.1))]) (fun x => [(3, (1, some (.box 59 (x.2.1.map fun n => AC.p (.k .u64 n))))), (5, (x.1, x.2.2))])
    (fun x => x.1 ≤ l.length ∧ x.2.1 = joinTo l x.1) (fun x => l.length - x.1) (0, zeroV, none) ⟨Nat.zero_le _, rfl⟩ (by exact knA) (by exact knA) ?_
  rintro ⟨i, u, c5⟩ β γ ⟨hi, hu⟩
  simp only at hi hu
  dsimp only
  have lu : u.length = 8 := by rw [hu]; exact joinTo_len l i
  by_cases hil : i < l.length
  · have d1 : decide ((i : Int) < (l.length : Int)) = true := decide_eq_true (by omega)
    obtain ⟨w, hw⟩ : ∃ w, w = l.getD (i : Int).toNat default := ⟨_, rfl⟩
    have lw : (l.getD (i : Int).toNat default).length = 8 := by
      rw [Int.toNat_natCast, getD_at hil]; exact h8 _ (List.getElem_mem _)
    have hst : joinTo l (i + 1) = mxTo u (l.getD (i : Int).toNat default) 8 := by rw [joinTo, hu, Int.toNat_natCast]
    repeat' (first
        | refine rnC ?_
        | refine rnSB ?_
        | refine rnG ?_
        | refine rnU ?_
        | ((fail_if_success (refine rnKn ?_)); refine rnP ?_ ?_ <;> (intro hq; try (have hq' := hq; simp only [hqs] at hq')))
        | refine rkC ?_
        | refine rkSB ?_
        | refine rkF ?_
        | refine rkU ?_
        | ((fail_if_success (refine rkKn ?_)); refine rkP ?_ ?_ <;> (intro hq; try (have hq' := hq; simp only [hqs] at hq')))
        | refine stp ?_
        | refine aws_draws [] mixed (by kernel_rfl) ?_
        | refine ifT ?_
        | refine ifF ?_
        | (refine ifQ ?_ ?_ <;> (try (intro hn)))
        | (refine ifB ?_ ?_ <;> (intro hq; try (have hq' := hq; simp only [hqs] at hq'))))
    refine aws_loopS [6, 7, 15, 16, 17, 18, 19, 20, 21, 22, 23, 24, 25, 26] [3] (fun (x : Nat × List Int) => [(15, .p (.i x.1))]) (fun x => [(3, (1, some (.box 59 (x.2.map fun n => AC.p (.k .u64 n)))))])
      (fun x => x.1 ≤ 8 ∧ x.2 = mxTo u (l.getD (i : Int).toNat default) x.1) (fun x => 8 - x.1) (0, u) ⟨Nat.zero_le _, rfl⟩ (by exact knA) (by exact knA) ?_
    rintro ⟨j, q⟩ β γ ⟨hj, hq⟩
    simp only at hj hq
    dsimp only
    have lq : q.length = 8 := by rw [hq, mxTo_len]; exact lu
    by_cases hj8 : j < 8
    · have d2 : decide ((j : Int) < 8) = true := decide_eq_true (by omega)
      as_aux_lemma =>
        repeat' (first
            | refine rnC ?_
            | refine rnSB ?_
            | refine rnG ?_
            | refine rnU ?_
            | ((fail_if_success (refine rnKn ?_)); refine rnP ?_ ?_ <;> (intro hq; try (have hq' := hq; simp only [hqs] at hq')))
            | refine rkC ?_
            | refine rkSB ?_
            | refine rkF ?_
            | refine rkU ?_
            | ((fail_if_success (refine rkKn ?_)); refine rkP ?_ ?_ <;> (intro hq; try (have hq' := hq; simp only [hqs] at hq')))
            | refine stp ?_
            | refine aws_draws [] mixed (by kernel_rfl) ?_
            | refine ifT ?_
            | refine ifF ?_
            | (refine ifQ ?_ ?_ <;> (try (intro hn)))
            | (refine ifB ?_ ?_ <;> (intro hq; try (have hq' := hq; simp only [hqs] at hq'))))
        refine ⟨(j + 1, q.set (j : Int).toNat (if (l.getD (i : Int).toNat default).getD (j : Int).toNat default > q.getD (j : Int).toNat default then (l.getD (i : Int).toNat default).getD (j : Int).toNat default else q.getD (j : Int).toNat default)), _, by dsimp only; omega, ⟨by dsimp only; omega, ?_⟩, .refl, by exact frA⟩
        dsimp only
        rw [Int.toNat_natCast j, mxTo, ← hq]
    · have d2 : decide ((j : Int) < 8) = false := decide_eq_false (by omega)
      obtain rfl : j = 8 := by omega
      as_aux_lemma =>
        repeat' (first
            | refine rnC ?_
            | refine rnSB ?_
            | refine rnG ?_
            | refine rnU ?_
            | ((fail_if_success (refine rnKn ?_)); refine rnP ?_ ?_ <;> (intro hq; try (have hq' := hq; simp only [hqs] at hq')))
            | refine rkC ?_
            | refine rkSB ?_
            | refine rkF ?_
            | refine rkU ?_
            | ((fail_if_success (refine rkKn ?_)); refine rkP ?_ ?_ <;> (intro hq; try (have hq' := hq; simp only [hqs] at hq')))
            | refine stp ?_
            | refine aws_draws [] mixed (by kernel_rfl) ?_
            | refine ifT ?_
            | refine ifF ?_
            | (refine ifQ ?_ ?_ <;> (try (intro hn)))
            | (refine ifB ?_ ?_ <;> (intro hq; try (have hq' := hq; simp only [hqs] at hq'))))
        exact ⟨(i + 1, q, _), _, by dsimp only; omega, ⟨by dsimp only; omega, by dsimp only; rw [hst, hq]⟩, .refl, by exact frA⟩
  · have d1 : decide ((i : Int) < (l.length : Int)) = false := decide_eq_false (by omega)
    obtain rfl : i = l.length := by omega
    rw [← hu, ← v8L_is lu]
    as_aux_lemma =>
      repeat' (first
          | refine rnC ?_
          | refine rnSB ?_
          | refine rnG ?_
          | refine rnU ?_
          | ((fail_if_success (refine rnKn ?_)); refine rnP ?_ ?_ <;> (intro hq; try (have hq' := hq; simp only [hqs] at hq')))
          | refine rkC ?_
          | refine rkSB ?_
          | refine rkF ?_
          | refine rkU ?_
          | ((fail_if_success (refine rkKn ?_)); refine rkP ?_ ?_ <;> (intro hq; try (have hq' := hq; simp only [hqs] at hq')))
          | refine stp ?_
          | refine aws_draws [] mixed (by kernel_rfl) ?_
          | refine ifT ?_
          | refine ifF ?_
          | (refine ifQ ?_ ?_ <;> (try (intro hn)))
          | (refine ifB ?_ ?_ <;> (intro hq; try (have hq' := hq; simp only [hqs] at hq'))))
      exact rc1 rfl rfl rfl rfl rfl (by first | exact lu | (rw [List.length_map]; exact lu)) finL_p rfl
instance {a b : List Int} {ex : Bool} : PC Tryz.prog 61 [.p (.sl 8 [v8R a, v8R b] ex)] (a.length = 8 ∧ b.length = 8 ∧ ∀ n ∈ a, 0 ≤ n) (.a (v8L (maxV a b))) := ⟨fun h => by
  have := joinV_w [a, b] ex (by simp) (by simp [h.1, h.2.1])
  rw [show joinTo [a, b] ([a, b] : List (List Int)).length = maxV a b by
    show mxTo (mxTo zeroV a 8) b 8 = _
    rw [mxTo_max rfl h.1, maxV_zero h.1 h.2.2, mxTo_max h.1 h.2.1]] at this
  rw [show ([a, b] : List (List Int)).map (fun v => v.map fun n => PVal.k .u64 n) = [v8R a, v8R b] by simp only [List.map_cons, List.map_nil]; rw [v8R_is h.1, v8R_is h.2.1]] at this
  exact this⟩
/-! entries -/
def idxE (d : Ent) (l : List Ent) (k : Nat) : Nat → Int
  | 0 => -1
  | n + 1 => if d = l.getD k default then k else idxE d l (k + 1) n
theorem idxE_any {d : Ent} {l : List Ent} : ∀ (n k : Nat), k + n = l.length → decide (0 ≤ idxE d l k n) = decide (d ∈ l.drop k)
  | 0, k, h => by rw [List.drop_eq_nil_of_le (by omega)]; exact decide_eq_decide.2 ⟨fun h => by rw [idxE] at h; omega, fun h => by cases h⟩
  | n + 1, k, h => by
    have hk : k < l.length := by omega
    have e : l.drop k = l.getD k default :: l.drop (k + 1) := by
      rw [List.getD_eq_getElem?_getD, List.getElem?_eq_getElem hk]; exact List.drop_eq_getElem_cons hk
    have ih := decide_eq_decide.1 (idxE_any (d := d) (l := l) n (k + 1) (by omega))
    refine decide_eq_decide.2 ?_
    rw [idxE, e, List.mem_cons]
    by_cases hp : d = l.getD k default
    · rw [if_pos hp]; exact ⟨fun _ => .inl hp, fun _ => by omega⟩
    · rw [if_neg hp, ih]; exact ⟨.inr, fun h => h.resolve_left hp⟩
theorem indexE_w (l : List Ent) (ex : Bool) (d : Ent) (h : l.length ≤ 1000000000) : PCall Tryz.prog 134 [.p (.sl 4 (l.map eR) ex), eV d] (.p (.i (idxE d l 0 l.length))) := by
  refine pcall_of Tryz.func134 rfl (fun w0 F S0 M0 => ?_)
  obtain ⟨A, hA⟩ : ∃ A, A = idxE d l 0 l.length := ⟨_, rfl⟩
  rw [← hA]
  repeat' (first
      | refine rnY ?_
      | refine rnSQ ?_
      | refine rnG ?_
      | refine rnU ?_
      | ((fail_if_success (refine rnKn ?_)); refine rnP ?_ ?_ <;> (intro hq; try (have hq' := hq; simp only [hqs] at hq')))
      | refine rkY ?_
      | refine rkSQ ?_
      | refine rkF ?_
      | refine rkU ?_
      | ((fail_if_success (refine rkKn ?_)); refine rkP ?_ ?_ <;> (intro hq; try (have hq' := hq; simp only [hqs] at hq')))
      | refine stp ?_
      | refine aws_draws [] mixed (by kernel_rfl) ?_
      | refine ifT ?_
      | refine ifF ?_
      | (refine ifQ ?_ ?_ <;> (try (intro hn)))
      | (refine ifB ?_ ?_ <;> (intro hq; try (have hq' := hq; simp only [hqs] at hq'))))
  refine aws_loopS [4, 5, 8, 9, 10, 11, 12, 13, 14, 15, 16, 17, 18] [] (fun (i : Nat) => [(8, .p (.i i))]) (fun _ => []) (fun i => i ≤ l.length ∧ A = idxE d l i (l.length - i)) (fun i => l.length - i) 0 ⟨Nat.zero_le _, hA⟩ (by exact knA) (by exact knA) ?_
  rintro i β γ ⟨hi, hx⟩
  by_cases hil : i < l.length
  · have hlt : decide ((i : Int) < l.length) = true := decide_eq_true (by omega)
    rw [show l.length - i = (l.length - (i + 1)) + 1 by omega, idxE] at hx
    have hv := vEqE d (l.getD (i : Int).toNat default)
    by_cases hp : d = l.getD i default
    · rw [if_pos hp] at hx
      rw [decide_eq_true (by rw [Int.toNat_natCast]; exact hp)] at hv
      rw [hx]
      as_aux_lemma =>
        repeat' (first
            | refine rnY ?_
            | refine rnSQ ?_
            | refine rnG ?_
            | refine rnU ?_
            | ((fail_if_success (refine rnKn ?_)); refine rnP ?_ ?_ <;> (intro hq; try (have hq' := hq; simp only [hqs] at hq')))
            | refine rkY ?_
            | refine rkSQ ?_
            | refine rkF ?_
            | refine rkU ?_
            | ((fail_if_success (refine rkKn ?_)); refine rkP ?_ ?_ <;> (intro hq; try (have hq' := hq; simp only [hqs] at hq')))
            | refine stp ?_
            | refine aws_draws [] mixed (by kernel_rfl) ?_
            | refine ifT ?_
            | refine ifF ?_
            | (refine ifQ ?_ ?_ <;> (try (intro hn)))
            | (refine ifB ?_ ?_ <;> (intro hq; try (have hq' := hq; simp only [hqs] at hq'))))
        exact rt1 rfl rfl finS_p rfl
    · rw [if_neg hp] at hx
      rw [decide_eq_false (by rw [Int.toNat_natCast]; exact hp)] at hv
      as_aux_lemma =>
        repeat' (first
            | refine rnY ?_
            | refine rnSQ ?_
            | refine rnG ?_
            | refine rnU ?_
            | ((fail_if_success (refine rnKn ?_)); refine rnP ?_ ?_ <;> (intro hq; try (have hq' := hq; simp only [hqs] at hq')))
            | refine rkY ?_
            | refine rkSQ ?_
            | refine rkF ?_
            | refine rkU ?_
            | ((fail_if_success (refine rkKn ?_)); refine rkP ?_ ?_ <;> (intro hq; try (have hq' := hq; simp only [hqs] at hq')))
            | refine stp ?_
            | refine aws_draws [] mixed (by kernel_rfl) ?_
            | refine ifT ?_
            | refine ifF ?_
            | (refine ifQ ?_ ?_ <;> (try (intro hn)))
            | (refine ifB ?_ ?_ <;> (intro hq; try (have hq' := hq; simp only [hqs] at hq'))))
        exact ⟨i + 1, _, by omega, ⟨by omega, hx⟩, .refl, by exact frA⟩
  · have hlt : decide ((i : Int) < l.length) = false := decide_eq_false (by omega)
    rw [show l.length - i = 0 by omega, idxE] at hx
    rw [hx]
    as_aux_lemma =>
      repeat' (first
          | refine rnY ?_
          | refine rnSQ ?_
          | refine rnG ?_
          | refine rnU ?_
          | ((fail_if_success (refine rnKn ?_)); refine rnP ?_ ?_ <;> (intro hq; try (have hq' := hq; simp only [hqs] at hq')))
          | refine rkY ?_
          | refine rkSQ ?_
          | refine rkF ?_
          | refine rkU ?_
          | ((fail_if_success (refine rkKn ?_)); refine rkP ?_ ?_ <;> (intro hq; try (have hq' := hq; simp only [hqs] at hq')))
          | refine stp ?_
          | refine aws_draws [] mixed (by kernel_rfl) ?_
          | refine ifT ?_
          | refine ifF ?_
          | (refine ifQ ?_ ?_ <;> (try (intro hn)))
          | (refine ifB ?_ ?_ <;> (intro hq; try (have hq' := hq; simp only [hqs] at hq'))))
      exact rt1 rfl rfl finS_p rfl
instance {l : List Ent} {ex : Bool} {d : Ent} : PC Tryz.prog 134 [.p (.sl 4 (l.map eR) ex), eV d] (l.length ≤ 1000000000) (.p (.i (idxE d l 0 l.length))) := ⟨indexE_w l ex d⟩
theorem containsE_w (l : List Ent) (ex : Bool) (d : Ent) (h : l.length ≤ 1000000000) : PCall Tryz.prog 96 [.p (.sl 4 (l.map eR) ex), eV d] (.p (.b (decide (d ∈ l)))) := by
  refine pcall_of Tryz.func96 rfl (fun w0 F S0 M0 => ?_)
  have e := idxE_any (d := d) (l := l) l.length 0 (by omega)
  rw [List.drop_zero] at e
  rw [← e]
  as_aux_lemma =>
    repeat' (first
        | refine rnY ?_
        | refine rnSQ ?_
        | refine rnG ?_
        | refine rnU ?_
        | ((fail_if_success (refine rnKn ?_)); refine rnP ?_ ?_ <;> (intro hq; try (have hq' := hq; simp only [hqs] at hq')))
        | refine rkY ?_
        | refine rkSQ ?_
        | refine rkF ?_
        | refine rkU ?_
        | ((fail_if_success (refine rkKn ?_)); refine rkP ?_ ?_ <;> (intro hq; try (have hq' := hq; simp only [hqs] at hq')))
        | refine stp ?_
        | refine aws_draws [] mixed (by kernel_rfl) ?_
        | refine ifT ?_
        | refine ifF ?_
        | (refine ifQ ?_ ?_ <;> (try (intro hn)))
        | (refine ifB ?_ ?_ <;> (intro hq; try (have hq' := hq; simp only [hqs] at hq'))))
    exact rt1 rfl rfl finS_p rfl
instance {l : List Ent} {ex : Bool} {d : Ent} : PC Tryz.prog 96 [.p (.sl 4 (l.map eR) ex), eV d] (l.length ≤ 1000000000) (.p (.b (decide (d ∈ l)))) := ⟨containsE_w l ex d⟩
/-! which clash -/
def clE (e f : Ent) : Bool := decide (e ≠ f) && decide (dotE e = dotE f)
theorem clash11_w (e f : Ent) : PCall Tryz.prog 94 [eV f, .p (.bx (eR e) 0)] (.p (.b (clE e f))) := by
  refine pcall_of Tryz.func94 rfl (fun w0 F S0 M0 => ?_)
  have h1 := vEqE e f
  have h2 := vEqD (dotE e) (dotE f)
  unfold clE
  by_cases h : e = f
  · rw [decide_eq_true h] at h1
    have k1 : (!vEqB [.int .i64 e.1, .int .i64 e.2.1, .int .u64 e.2.2.1, .int .i64 e.2.2.2] [.int .i64 f.1, .int .i64 f.2.1, .int .u64 f.2.2.1, .int .i64 f.2.2.2]) = false := by rw [h1]; rfl
    rw [decide_eq_false (fun q => q h)]
    as_aux_lemma =>
      repeat' (first
          | refine rnC ?_
          | refine rnSB ?_
          | refine rnG ?_
          | refine rnU ?_
          | ((fail_if_success (refine rnKn ?_)); refine rnP ?_ ?_ <;> (intro hq; try (have hq' := hq; simp only [hqs] at hq')))
          | refine rkC ?_
          | refine rkSB ?_
          | refine rkF ?_
          | refine rkU ?_
          | ((fail_if_success (refine rkKn ?_)); refine rkP ?_ ?_ <;> (intro hq; try (have hq' := hq; simp only [hqs] at hq')))
          | refine stp ?_
          | refine aws_draws [] mixed (by kernel_rfl) ?_
          | refine ifT ?_
          | refine ifF ?_
          | (refine ifQ ?_ ?_ <;> (try (intro hn)))
          | (refine ifB ?_ ?_ <;> (intro hq; try (have hq' := hq; simp only [hqs] at hq'))))
      exact rt1 rfl rfl finS_p rfl
  · rw [decide_eq_false h] at h1
    have k1 : (!vEqB [.int .i64 e.1, .int .i64 e.2.1, .int .u64 e.2.2.1, .int .i64 e.2.2.2] [.int .i64 f.1, .int .i64 f.2.1, .int .u64 f.2.2.1, .int .i64 f.2.2.2]) = true := by rw [h1]; rfl
    rw [decide_eq_true h, ← h2]
    as_aux_lemma =>
      repeat' (first
          | refine rnC ?_
          | refine rnSB ?_
          | refine rnG ?_
          | refine rnU ?_
          | ((fail_if_success (refine rnKn ?_)); refine rnP ?_ ?_ <;> (intro hq; try (have hq' := hq; simp only [hqs] at hq')))
          | refine rkC ?_
          | refine rkSB ?_
          | refine rkF ?_
          | refine rkU ?_
          | ((fail_if_success (refine rkKn ?_)); refine rkP ?_ ?_ <;> (intro hq; try (have hq' := hq; simp only [hqs] at hq')))
          | refine stp ?_
          | refine aws_draws [] mixed (by kernel_rfl) ?_
          | refine ifT ?_
          | refine ifF ?_
          | (refine ifQ ?_ ?_ <;> (try (intro hn)))
          | (refine ifB ?_ ?_ <;> (intro hq; try (have hq' := hq; simp only [hqs] at hq'))))
      exact rt1 rfl rfl finS_p rfl
instance {e : Ent} : FP Tryz.prog 94 [.bx (eR e) 0] True (fun f => clE e f) := ⟨fun _ f => clash11_w e f⟩
theorem clash1_w (e : Ent) (v : List Int) (l : List Ent) (ex : Bool) (h : l.length ≤ 1000000000) : PCall Tryz.prog 93 [eV e, .p (.bx (cR v l ex) 0)] (.p (.b (l.any fun f => clE e f))) := by
  refine pcall_of Tryz.func93 rfl (fun w0 F S0 M0 => ?_)
  as_aux_lemma =>
    repeat' (first
        | refine rnC ?_
        | refine rnSB ?_
        | refine rnG ?_
        | refine rnU ?_
        | ((fail_if_success (refine rnKn ?_)); refine rnP ?_ ?_ <;> (intro hq; try (have hq' := hq; simp only [hqs] at hq')))
        | refine rkC ?_
        | refine rkSB ?_
        | refine rkF ?_
        | refine rkU ?_
        | ((fail_if_success (refine rkKn ?_)); refine rkP ?_ ?_ <;> (intro hq; try (have hq' := hq; simp only [hqs] at hq')))
        | refine stp ?_
        | refine aws_draws [] mixed (by kernel_rfl) ?_
        | refine ifT ?_
        | refine ifF ?_
        | (refine ifQ ?_ ?_ <;> (try (intro hn)))
        | (refine ifB ?_ ?_ <;> (intro hq; try (have hq' := hq; simp only [hqs] at hq'))))
    exact rt1 rfl rfl finS_p rfl
instance {v : List Int} {l : List Ent} {ex : Bool} : FP Tryz.prog 93 [.bx (cR v l ex) 0] (l.length ≤ 1000000000) (fun e => l.any fun f => clE e f) := ⟨fun h e => clash1_w e v l ex h⟩
theorem clash_w (v w : List Int) (l m : List Ent) (ex ey : Bool) (hl : l.length ≤ 1000000000) (hm : m.length ≤ 1000000000) : PCall Tryz.prog 57 [cV v l ex, cV w m ey] (.p (.b (clashF (v, l) (w, m)))) := by
  refine pcall_of Tryz.func57 rfl (fun w0 F S0 M0 => ?_)
  show AWs _ _ _ _
  rw [show clashF (v, l) (w, m) = l.any fun e => m.any fun f => clE e f from rfl]
  as_aux_lemma =>
    repeat' (first
        | refine rnC ?_
        | refine rnSB ?_
        | refine rnG ?_
        | refine rnU ?_
        | ((fail_if_success (refine rnKn ?_)); refine rnP ?_ ?_ <;> (intro hq; try (have hq' := hq; simp only [hqs] at hq')))
        | refine rkC ?_
        | refine rkSB ?_
        | refine rkF ?_
        | refine rkU ?_
        | ((fail_if_success (refine rkKn ?_)); refine rkP ?_ ?_ <;> (intro hq; try (have hq' := hq; simp only [hqs] at hq')))
        | refine stp ?_
        | refine aws_draws [] mixed (by kernel_rfl) ?_
        | refine ifT ?_
        | refine ifF ?_
        | (refine ifQ ?_ ?_ <;> (try (intro hn)))
        | (refine ifB ?_ ?_ <;> (intro hq; try (have hq' := hq; simp only [hqs] at hq'))))
    exact rt1 rfl rfl finS_p rfl
instance {v w : List Int} {l m : List Ent} {ex ey : Bool} : PC Tryz.prog 57 [cV v l ex, cV w m ey] (l.length ≤ 1000000000 ∧ m.length ≤ 1000000000) (.p (.b (clashF (v, l) (w, m)))) := ⟨fun h => clash_w v w l m ex ey h.1 h.2⟩
end Go.Proofs.YtebjmleheiefdaaGreat.Ca
