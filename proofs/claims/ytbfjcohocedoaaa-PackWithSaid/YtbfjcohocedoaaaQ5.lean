/- packs: slices.Insert of one element into an own slice; packs: a list with another cart: copies; packs: a list with another cart -/
import Derived.Test.YtbfjcohocedoaaaQ3
import Derived.Test.YtbfjcohocedoaaaKv
import Derived.Test.YtbfjcohocedoaaaQ4
import Derived.Test.YtbfjcohocedoaaaKu
namespace Go.Proofs.Ytbfjcohocedoaaa.Wi
open Go Go.RowKit Go.Aw Go.Aw.Cart Go.Proofs.Ytbfjcohocedoaaa.Ca
set_option linter.unusedVariables false
set_option linter.unusedSimpArgs false
set_option maxRecDepth 8000
set_option maxHeartbeats 4000000
namespace WI
theorem lopC {C : Ctx} {o : Oper} {σ : St} {e : Eff} {ro : Nat → Bool} (h : LOp C o σ e ro := by
    first
      | (apply lop_cap_asl; (focus rfl); (focus exact inferInstance); (focus rfl); (focus rfl))
      | exact lop_len_asl rfl rfl rfl
      | (apply lop_sl_asl_l; (focus rfl); (focus exact inferInstance); (focus exact inferInstance); (focus rfl); (focus rfl); (focus omega); (focus omega); (focus omega); (focus omega); (focus rfl))
      | (apply lop_sl_asl_h; (focus rfl); (focus exact inferInstance); (focus exact inferInstance); (focus rfl); (focus rfl); (focus omega); (focus omega); (focus rfl))
      | (apply lop_sl_osl_l; (focus rfl); (focus exact inferInstance); (focus exact inferInstance); (focus rfl); (focus rfl); (focus omega); (focus omega); (focus rfl))
      | (apply lop_sl_osl_u; (focus rfl); (focus exact inferInstance); (focus exact inferInstance); (focus rfl); (focus rfl); (focus omega); (focus omega); (focus rfl))
      | exact W9.lopC
      | fail) : LOp C o σ e ro := h
section steps
variable {C : Ctx} {ops : Array Oper} {o : Oper} {rest : List Oper} {K : St → Prop} {σ : St} {e : Eff} {ro : Nat → Bool} {W : List (Nat × Nat)} {i : Nat}
theorem rnC {d : Nat} (hk : RunN C ops rest K (e.app (some d) σ)) (hg : Guard ops σ o true := by first | exact gd_n rfl rfl | exact gd_t rfl rfl rfl rfl | exact gd_t rfl rfl rfl (by assumption)) (hd : o.dst = some d := by rfl) (h : LOp C o σ e ro := by exact lopC) : RunN C ops (o :: rest) K σ := rn_any hg hd h hk
theorem rkC {d : Nat} (hk : RunK C ops W (i + 1) rest K (e.app (some d) σ)) (hg : Guard ops σ o true := by first | exact gd_n rfl rfl | exact gd_t rfl rfl rfl rfl | exact gd_t rfl rfl rfl (by assumption)) (hd' : o.dst = some d := by rfl) (hd : dOk C o.dst = true := by rfl) (h : LOp C o σ e ro := by exact lopC)
    (hro : ∀ x, ro x = true → okObj ops W i x = true := by first | exact fun _ => ro_none | exact ro_one rfl | exact ro_k1 rfl | exact ro_one (by kernel_rfl) | exact ro_k1 (by kernel_rfl) | exact ro_kIn (by decide)) (hob : ∀ p ∈ e.obj, (i, p.1) ∈ W := by first | exact ob_none | exact ob_one (by decide) | decide) : RunK C ops W i (o :: rest) K σ := rk_wr hg hd' hd h hro hob hk
end steps
end WI
open WI
abbrev kT := 36
theorem ovl_f : OvF Try.prog 71 22 4 := ⟨_, Try.func71, by kernel_rfl, by kernel_rfl, by kernel_rfl, by kernel_rfl⟩
theorem ins_rows1 {α : Type} (rows : List α) (xr zr : α) (i : Nat) (hi : i < rows.length) (A R : List α) (hA : A = rows.take i ++ List.replicate (rows.length + 1 - i) zr) (hR : R = A.take i ++ [xr] ++ A.drop (i + 1)) :
    R.take (i + 1) ++ (rows.drop i).take (rows.length - i) ++ R.drop (i + 1 + (rows.length - i)) = rows.take i ++ xr :: rows.drop i := by
  have hl : (rows.take i).length = i := by rw [List.length_take]; omega
  have hAl : A.length = rows.length + 1 := by rw [hA, List.length_append, hl, List.length_replicate]; omega
  have hAt : A.take i = rows.take i := by
    rw [hA]
    exact List.take_left' hl
  have hRl : R.length = rows.length + 1 := by rw [hR, List.length_append, List.length_append, hAt, hl, List.length_drop, hAl, List.length_singleton]; omega
  have h1 : R.take (i + 1) = rows.take i ++ [xr] := by
    have e : (rows.take i ++ [xr]).length = i + 1 := by rw [List.length_append, hl]; rfl
    rw [hR, hAt]
    exact List.take_left' e
  have h2 : R.drop (i + 1 + (rows.length - i)) = [] := List.drop_of_length_le (by omega)
  have h3 : (rows.drop i).take (rows.length - i) = rows.drop i := List.take_of_length_le (by rw [List.length_drop]; omega)
  rw [h1, h2, h3, List.append_nil, List.append_assoc]; rfl
theorem ins_len1 {α : Type} (rows : List α) (xr zr : α) (i : Nat) (hi : i < rows.length) (A R : List α) (hA : A = rows.take i ++ List.replicate (rows.length + 1 - i) zr) (hR : R = A.take i ++ [xr] ++ A.drop (i + 1)) : R.length = rows.length + 1 := by
  have hl : (rows.take i).length = i := by rw [List.length_take]; omega
  have hAl : A.length = rows.length + 1 := by rw [hA, List.length_append, hl, List.length_replicate]; omega
  rw [hR, List.length_append, List.length_append, List.length_take, List.length_drop, hAl, List.length_singleton]; omega
theorem ins_len2 {α : Type} (rows : List α) (i : Nat) (hi : i < rows.length) (R : List α) (hR : R = rows.take (i + 1) ++ (rows.drop i).take (rows.length - i) ++ rows.drop (i + 1 + (rows.length - i))) : R.length = rows.length + 1 := by
  rw [hR, List.length_append, List.length_append, List.length_take, List.length_take, List.length_drop, List.length_drop]; omega
theorem ins_rows2 {α : Type} (rows : List α) (xr : α) (i : Nat) (hi : i < rows.length) (R : List α) (hR : R = rows.take (i + 1) ++ (rows.drop i).take (rows.length - i) ++ rows.drop (i + 1 + (rows.length - i))) :
    R.take i ++ [xr] ++ R.drop (i + 1) = rows.take i ++ xr :: rows.drop i := by
  have hl : (rows.take (i + 1)).length = i + 1 := by rw [List.length_take]; omega
  have h2 : rows.drop (i + 1 + (rows.length - i)) = [] := List.drop_of_length_le (by omega)
  have h3 : (rows.drop i).take (rows.length - i) = rows.drop i := List.take_of_length_le (by rw [List.length_drop]; omega)
  rw [h2, h3, List.append_nil] at hR
  have h1 : R.take i = rows.take i := by
    rw [hR, List.take_append_of_le_length (by omega), List.take_take, Nat.min_eq_left (by omega)]
  have h2 : R.drop (i + 1) = rows.drop i := by
    rw [hR]
    exact List.drop_left' hl
  rw [h1, h2, List.append_assoc]; rfl
abbrev zR : List Value := [.string ByteArray.empty, .int .u64 0, .int .u64 0, .int .u64 0, .int .u64 0, .int .u64 0, .int .u64 0, .int .u64 0, .int .u64 0, .slice none 0 0]
theorem zR_one : ∀ v ∈ zR, v.oneCell' = true := by
  intro v hv
  simp only [zR, List.mem_cons, List.not_mem_nil, or_false] at hv
  rcases hv with rfl | rfl | rfl | rfl | rfl | rfl | rfl | rfl | rfl | rfl <;> rfl
theorem insert_o (g gd : Nat) (l : List Kd) (x : Kd) (i : Nat) (hi : i ≤ l.length) (hl : l.length ≤ 1000000) : OCall Try.prog 49 [.o (.osl 1000 g 10 0 l.length), .p (.i (i : Int)), .o (.osl 1001 gd 10 0 1)]
    (memL [(1000, (g + 1, some (.buf kT 10 (l.map kR)))), (1001, (gd + 1, some (.buf kT 10 [kR x])))]) (.o (.osl 1000 (g + 1) 10 0 (l.take i ++ x :: l.drop i).length)) (memL [(1000, (g + 2, some (.buf kT 10 ((l.take i ++ x :: l.drop i).map kR)))), (1001, (gd + 1, some (.buf kT 10 [kR x])))]) := by
  refine ocall_of22 Try.func49 rfl (fun w0 F S0 M0 => ?_)
  have d0 : decide (((1 : Nat) : Int) = 0) = false := by decide
  have hnl : (l.take i ++ x :: l.drop i).length = l.length + 1 := by rw [List.length_append, List.length_cons, List.length_take, List.length_drop]; omega
  rw [hnl]
  by_cases he : i = l.length
  · have d1 : decide ((i : Int) = (l.length : Int)) = true := decide_eq_true (by omega)
    rw [show (l.take i ++ x :: l.drop i).map kR = l.map kR ++ [kR x] by rw [he, List.take_length, List.drop_length, List.map_append]; rfl]
    repeat' (first
        | refine rnC ?_
        | refine rnSB ?_
        | refine rnG ?_
        | refine rnU ?_
        | ((fail_if_success (refine rnKn ?_)); refine rnP ?_ ?_ <;> (intro hq; try (have hq' := hq; simp only [hqs] at hq')))
        | refine rkC ?_
        | refine rkSB ?_
        | refine rkF ?_
        | refine rkU ?_
        | ((fail_if_success (refine rkKn ?_)); refine rkP ?_ ?_ <;> (intro hq; try (have hq' := hq; simp only [hqs] at hq')))
        | refine stp ?_
        | refine ifT ?_
        | refine ifF ?_
        | (refine ifQ ?_ ?_ <;> (try (intro hn)))
        | (refine ifB ?_ ?_ <;> (intro hq; try (have hq' := hq; simp only [hqs] at hq'))))
    refine rn_any (gd_n rfl rfl) rfl (lop_append_osl (es := 10) (rows := l.map kR) (news := [kR x]) rfl rfl rfl rfl (by rw [List.length_map]) (src_osl (x := .tmp 24) (rows := [kR x]) (lo := 0) (len := 1) rfl rfl rfl (Nat.le_refl _)) rfl (by rw [List.length_map]; simp only [maxLen, List.length_cons, List.length_nil]; omega) (by rw [List.length_map]; simp only [List.length_cons, List.length_nil]; omega) rfl) ?_
    as_aux_lemma =>
      repeat' (first
          | refine rnC ?_
          | refine rnSB ?_
          | refine rnG ?_
          | refine rnU ?_
          | ((fail_if_success (refine rnKn ?_)); refine rnP ?_ ?_ <;> (intro hq; try (have hq' := hq; simp only [hqs] at hq')))
          | refine rkC ?_
          | refine rkSB ?_
          | refine rkF ?_
          | refine rkU ?_
          | ((fail_if_success (refine rkKn ?_)); refine rkP ?_ ?_ <;> (intro hq; try (have hq' := hq; simp only [hqs] at hq')))
          | refine stp ?_
          | refine ifT ?_
          | refine ifF ?_
          | (refine ifQ ?_ ?_ <;> (try (intro hn)))
          | (refine ifB ?_ ?_ <;> (intro hq; try (have hq' := hq; simp only [hqs] at hq'))))
      exact RetO.mk (ot1 rfl rfl (.one (.kosl rfl)) (by rw [List.length_map]; rfl)) ⟨.buf, .buf, trivial⟩
  · have d1 : decide ((i : Int) = (l.length : Int)) = false := decide_eq_false (by omega)
    have hil : i < l.length := by omega
    refine aws_endS ?_
    refine aws_cap (t := 0) (o := 1000) rfl rfl rfl (by rw [List.length_map]; omega) fun c hc1 hc2 => ?_
    rw [List.length_map] at hc1
    simp only [maxLen] at hc2
    have hm : (l.take i ++ x :: l.drop i).map kR = (l.map kR).take i ++ kR x :: (l.map kR).drop i := by rw [List.map_append, List.map_cons, List.map_take, List.map_drop]
    rw [hm]
    have hrl : (l.map kR).length = l.length := List.length_map _
    by_cases hg : c < l.length + 1
    · have d2 : decide ((c : Int) < (l.length : Int) + ((1 : Nat) : Int)) = true := decide_eq_true (by omega)
      have hE := ins_rows1 (l.map kR) (kR x) (zR.map PVal.v) i (by rw [hrl]; exact hil) _ _ rfl rfl
      have hRl := ins_len1 (l.map kR) (kR x) (zR.map PVal.v) i (by rw [hrl]; exact hil) _ _ rfl rfl
      rw [hrl] at hE hRl
      rw [← hE]
      repeat' (first
          | refine rnC ?_
          | refine rnSB ?_
          | refine rnG ?_
          | refine rnU ?_
          | ((fail_if_success (refine rnKn ?_)); refine rnP ?_ ?_ <;> (intro hq; try (have hq' := hq; simp only [hqs] at hq')))
          | refine rkC ?_
          | refine rkSB ?_
          | refine rkF ?_
          | refine rkU ?_
          | ((fail_if_success (refine rkKn ?_)); refine rkP ?_ ?_ <;> (intro hq; try (have hq' := hq; simp only [hqs] at hq')))
          | refine stp ?_
          | refine ifT ?_
          | refine ifF ?_
          | (refine ifQ ?_ ?_ <;> (try (intro hn)))
          | (refine ifB ?_ ?_ <;> (intro hq; try (have hq' := hq; simp only [hqs] at hq'))))
      refine rn_any (gd_n rfl rfl) rfl (lop_ap_zc (k := l.length + 1 - i) (len1 := i) (z := zR) rfl inferInstance inferInstance inferInstance inferInstance rfl zR_one rfl rfl rfl rfl rfl (by omega) (by omega) (by rw [hrl]; omega) (by omega) (by omega) (by omega) rfl (by decide) rfl) ?_
      repeat' (first
          | refine rnC ?_
          | refine rnSB ?_
          | refine rnG ?_
          | refine rnU ?_
          | ((fail_if_success (refine rnKn ?_)); refine rnP ?_ ?_ <;> (intro hq; try (have hq' := hq; simp only [hqs] at hq')))
          | refine rkC ?_
          | refine rkSB ?_
          | refine rkF ?_
          | refine rkU ?_
          | ((fail_if_success (refine rkKn ?_)); refine rkP ?_ ?_ <;> (intro hq; try (have hq' := hq; simp only [hqs] at hq')))
          | refine stp ?_
          | refine ifT ?_
          | refine ifF ?_
          | (refine ifQ ?_ ?_ <;> (try (intro hn)))
          | (refine ifB ?_ ?_ <;> (intro hq; try (have hq' := hq; simp only [hqs] at hq'))))
      refine rn_any (gd_n rfl rfl) rfl (lop_cp_o (ob := 40) (d := i) (k := 1) rfl inferInstance inferInstance rfl rfl rfl ((src_osl (x := .tmp 44) (rows := [kR x]) (lo := 0) (len := 1) rfl rfl rfl (Nat.le_refl _)).n (Nat.succ_pos 0)) (by show Nat.min 1 _ = 1; exact Nat.min_eq_left (by omega)) (Nat.le_refl 1) (by decide) (by rw [List.length_append, List.length_take, hrl, List.length_replicate]; omega) rfl) ?_
      repeat' (first
          | refine rnC ?_
          | refine rnSB ?_
          | refine rnG ?_
          | refine rnU ?_
          | ((fail_if_success (refine rnKn ?_)); refine rnP ?_ ?_ <;> (intro hq; try (have hq' := hq; simp only [hqs] at hq')))
          | refine rkC ?_
          | refine rkSB ?_
          | refine rkF ?_
          | refine rkU ?_
          | ((fail_if_success (refine rkKn ?_)); refine rkP ?_ ?_ <;> (intro hq; try (have hq' := hq; simp only [hqs] at hq')))
          | refine stp ?_
          | refine ifT ?_
          | refine ifF ?_
          | (refine ifQ ?_ ?_ <;> (try (intro hn)))
          | (refine ifB ?_ ?_ <;> (intro hq; try (have hq' := hq; simp only [hqs] at hq'))))
      refine aws_draws [(8, 40)] mixed (by kernel_rfl) ?_
      repeat' (first
          | refine rk_nil ?_
          | refine rkC ?_
          | refine rkSB ?_
          | refine rkF ?_
          | refine rkU ?_
          | ((fail_if_success (refine rkKn ?_)); refine rkP ?_ ?_ <;> (intro hq; try (have hq' := hq; simp only [hqs] at hq'))))
      refine rk_wr (gd_n rfl rfl) rfl rfl (lop_cp_o (ob := 40) (d := i + 1) (k := l.length - i) rfl inferInstance inferInstance rfl rfl rfl (src_aslC (x := .tmp 53) (ob := 1000) (d := i) rfl rfl rfl (by show 0 + (i : Int).toNat * 10 = i * 10; rw [Nat.zero_add]; rfl)) (by show Nat.min (l.length - i) _ = l.length - i; exact Nat.min_eq_left (by omega)) (by rw [List.length_drop, hrl]; exact Nat.le_refl _) (by omega) (Nat.le_trans (show i + 1 + (i + (l.length + 1 - i) - ((i : Int) + ((1 : Nat) : Int)).toNat) ≤ l.length + 1 by omega) (Nat.le_of_eq hRl.symm)) rfl) (by intro q hq; simp only [Bool.or_eq_true, beq_iff_eq] at hq; rcases hq with rfl | rfl <;> kernel_rfl) (ob_one (by decide)) ?_
      repeat' (first
          | refine rk_nil ?_
          | refine rkC ?_
          | refine rkSB ?_
          | refine rkF ?_
          | refine rkU ?_
          | ((fail_if_success (refine rkKn ?_)); refine rkP ?_ ?_ <;> (intro hq; try (have hq' := hq; simp only [hqs] at hq'))))
      as_aux_lemma =>
        repeat' (first
            | refine rnC ?_
            | refine rnSB ?_
            | refine rnG ?_
            | refine rnU ?_
            | ((fail_if_success (refine rnKn ?_)); refine rnP ?_ ?_ <;> (intro hq; try (have hq' := hq; simp only [hqs] at hq')))
            | refine rkC ?_
            | refine rkSB ?_
            | refine rkF ?_
            | refine rkU ?_
            | ((fail_if_success (refine rkKn ?_)); refine rkP ?_ ?_ <;> (intro hq; try (have hq' := hq; simp only [hqs] at hq')))
            | refine stp ?_
            | refine ifT ?_
            | refine ifF ?_
            | (refine ifQ ?_ ?_ <;> (try (intro hn)))
            | (refine ifB ?_ ?_ <;> (intro hq; try (have hq' := hq; simp only [hqs] at hq'))))
        exact ⟨_, says_mv (t := 6) (o := 1000) (o2 := 40) rfl rfl rfl rfl (by decide), RetO.mk (ot1 rfl rfl (.one (.kosl rfl)) (by rw [show i + (l.length + 1 - i) = l.length + 1 by omega])) ⟨.buf, .buf, trivial⟩⟩
    · have d2 : decide ((c : Int) < (l.length : Int) + ((1 : Nat) : Int)) = false := decide_eq_false (by omega)
      have hE := ins_rows2 (l.map kR) (kR x) i (by rw [hrl]; exact hil) _ rfl
      have hRl := ins_len2 (l.map kR) i (by rw [hrl]; exact hil) _ rfl
      rw [hrl] at hE hRl
      have hR2 := (congrArg List.length hE).trans (show ((l.map kR).take i ++ kR x :: (l.map kR).drop i).length = l.length + 1 by rw [List.length_append, List.length_cons, List.length_take, List.length_drop, hrl]; omega)
      rw [← hE]
      repeat' (first
          | refine rnC ?_
          | refine rnSB ?_
          | refine rnG ?_
          | refine rnU ?_
          | ((fail_if_success (refine rnKn ?_)); refine rnP ?_ ?_ <;> (intro hq; try (have hq' := hq; simp only [hqs] at hq')))
          | refine rkC ?_
          | refine rkSB ?_
          | refine rkF ?_
          | refine rkU ?_
          | ((fail_if_success (refine rkKn ?_)); refine rkP ?_ ?_ <;> (intro hq; try (have hq' := hq; simp only [hqs] at hq')))
          | refine stp ?_
          | refine ifT ?_
          | refine ifF ?_
          | (refine ifQ ?_ ?_ <;> (try (intro hn)))
          | (refine ifB ?_ ?_ <;> (intro hq; try (have hq' := hq; simp only [hqs] at hq'))))
      refine rn_any (gd_n rfl rfl) rfl (lop_ovl (ob := 1000) (d := 1001) ovl_f inferInstance inferInstance rfl rfl rfl rfl rfl rfl rfl (Nat.succ_pos _) (by rw [hrl]; omega) (by decide) rfl) ?_
      have d3 : (!false) = true := rfl
      repeat' (first
          | refine rnC ?_
          | refine rnSB ?_
          | refine rnG ?_
          | refine rnU ?_
          | ((fail_if_success (refine rnKn ?_)); refine rnP ?_ ?_ <;> (intro hq; try (have hq' := hq; simp only [hqs] at hq')))
          | refine rkC ?_
          | refine rkSB ?_
          | refine rkF ?_
          | refine rkU ?_
          | ((fail_if_success (refine rkKn ?_)); refine rkP ?_ ?_ <;> (intro hq; try (have hq' := hq; simp only [hqs] at hq')))
          | refine stp ?_
          | refine ifT ?_
          | refine ifF ?_
          | (refine ifQ ?_ ?_ <;> (try (intro hn)))
          | (refine ifB ?_ ?_ <;> (intro hq; try (have hq' := hq; simp only [hqs] at hq'))))
      refine aws_draws [(8, 1000)] mixed (by kernel_rfl) ?_
      repeat' (first
          | refine rk_nil ?_
          | refine rkC ?_
          | refine rkSB ?_
          | refine rkF ?_
          | refine rkU ?_
          | ((fail_if_success (refine rkKn ?_)); refine rkP ?_ ?_ <;> (intro hq; try (have hq' := hq; simp only [hqs] at hq'))))
      refine rk_wr (gd_n rfl rfl) rfl rfl (lop_cp_c (ob := 1000) (d := i + 1) (c := c) (k := l.length - i) rfl inferInstance inferInstance rfl rfl rfl (by show 0 + ((i : Int) + ((1 : Nat) : Int)).toNat * 10 = (i + 1) * 10; rw [show ((i : Int) + ((1 : Nat) : Int)).toNat = i + 1 by omega, Nat.zero_add]) (src_aslC (x := .tmp 76) (ob := 1000) (d := i) rfl rfl rfl (by show 0 + (i : Int).toNat * 10 = i * 10; rw [Nat.zero_add]; rfl)) (by show Nat.min (((l.length : Int) + ((1 : Nat) : Int)).toNat - (i : Int).toNat) (((l.length : Int) + ((1 : Nat) : Int)).toNat - ((i : Int) + ((1 : Nat) : Int)).toNat) = l.length - i; exact (Nat.min_eq_right (show ((l.length : Int) + ((1 : Nat) : Int)).toNat - ((i : Int) + ((1 : Nat) : Int)).toNat ≤ ((l.length : Int) + ((1 : Nat) : Int)).toNat - (i : Int).toNat by omega)).trans (by omega)) (by rw [List.length_drop, hrl]; exact Nat.le_refl _) (by omega) (by rw [hrl]; omega) (by omega) rfl) (by intro q hq; simp only [Bool.or_eq_true, beq_iff_eq, or_self] at hq; subst hq; kernel_rfl) (ob_one (by decide)) ?_
      repeat' (first
          | refine rk_nil ?_
          | refine rkC ?_
          | refine rkSB ?_
          | refine rkF ?_
          | refine rkU ?_
          | ((fail_if_success (refine rkKn ?_)); refine rkP ?_ ?_ <;> (intro hq; try (have hq' := hq; simp only [hqs] at hq'))))
      repeat' (first
          | refine rnC ?_
          | refine rnSB ?_
          | refine rnG ?_
          | refine rnU ?_
          | ((fail_if_success (refine rnKn ?_)); refine rnP ?_ ?_ <;> (intro hq; try (have hq' := hq; simp only [hqs] at hq')))
          | refine rkC ?_
          | refine rkSB ?_
          | refine rkF ?_
          | refine rkU ?_
          | ((fail_if_success (refine rkKn ?_)); refine rkP ?_ ?_ <;> (intro hq; try (have hq' := hq; simp only [hqs] at hq')))
          | refine stp ?_
          | refine ifT ?_
          | refine ifF ?_
          | (refine ifQ ?_ ?_ <;> (try (intro hn)))
          | (refine ifB ?_ ?_ <;> (intro hq; try (have hq' := hq; simp only [hqs] at hq'))))
      refine rn_any (gd_n rfl rfl) rfl (lop_cp_c (ob := 1000) (d := i) (c := c) (k := 1) rfl inferInstance inferInstance rfl rfl rfl (by show 0 + (i : Int).toNat * 10 = i * 10; rw [Nat.zero_add]; rfl) ((src_osl (x := .tmp 81) (rows := [kR x]) (lo := 0) (len := 1) rfl rfl rfl (Nat.le_refl _)).n (Nat.succ_pos 0)) (by show Nat.min 1 (((l.length : Int) + ((1 : Nat) : Int)).toNat - (i : Int).toNat) = 1; exact Nat.min_eq_left (by omega)) (Nat.le_refl 1) (by decide) (Nat.le_trans (show i ≤ l.length + 1 by omega) (Nat.le_of_eq hRl.symm)) (by omega) rfl) ?_
      as_aux_lemma =>
        repeat' (first
            | refine rnC ?_
            | refine rnSB ?_
            | refine rnG ?_
            | refine rnU ?_
            | ((fail_if_success (refine rnKn ?_)); refine rnP ?_ ?_ <;> (intro hq; try (have hq' := hq; simp only [hqs] at hq')))
            | refine rkC ?_
            | refine rkSB ?_
            | refine rkF ?_
            | refine rkU ?_
            | ((fail_if_success (refine rkKn ?_)); refine rkP ?_ ?_ <;> (intro hq; try (have hq' := hq; simp only [hqs] at hq')))
            | refine stp ?_
            | refine ifT ?_
            | refine ifF ?_
            | (refine ifQ ?_ ?_ <;> (try (intro hn)))
            | (refine ifB ?_ ?_ <;> (intro hq; try (have hq' := hq; simp only [hqs] at hq'))))
        exact ⟨_, says_uncap (t := 6) (o := 1000) (c := c) rfl rfl rfl (Eq.trans (show ((l.length : Int) + ((1 : Nat) : Int)).toNat = l.length + 1 by omega) hR2.symm), RetO.mk (ot1 rfl rfl (.one (.kosl rfl)) (by rw [show ((l.length : Int) + ((1 : Nat) : Int)).toNat = l.length + 1 by omega])) ⟨.buf, .buf, trivial⟩⟩
end Go.Proofs.Ytbfjcohocedoaaa.Wi
namespace Go.Proofs.Ytbfjcohocedoaaa.Wi
open Go Go.RowKit Go.Aw Go.Aw.Cart Go.Proofs.Ytbfjcohocedoaaa.Ca
set_option linter.unusedVariables false
set_option linter.unusedSimpArgs false
set_option maxRecDepth 8000
set_option maxHeartbeats 4000000
/-- no element, written out: it grows from now on -/
theorem lop_bzK {C : Ctx} {o : Oper} {σ : St} {T e : TypeId} {sz by_ : Nat} {ke : TK} {be : Nat} {z : List Value} {d n0 : Nat} {mo0 : Option MO} (ho : o.op = .buildSlice T 0 #[]) (hT : TI C.P T (.slice e) sz by_) (he : TI C.P e ke 10 be) (hz : TZ C.P e z) (hdst : o.dst = some d) (hm0 : σ.mem d = (n0, mo0)) (hd : dOk C o.dst = true) :
    LOp C o σ ⟨.o (.osl d n0 10 0 ([] : List Kd).length), [(d, (n0 + 1, some (.buf e 10 (([] : List Kd).map kR))))]⟩ (fun q => q == d) := lop_bo0 ho hT he hz hdst hm0 (by decide) hd
/-- one element, written out: an own slice -/
theorem lop_boK {C : Ctx} {o : Oper} {σ : St} {T e : TypeId} {sz by_ : Nat} {ke : TK} {be : Nat} {z : List Value} {d n0 : Nat} {mo0 : Option MO} {x0 : Operand} {k : Kd} (ho : o.op = .buildSlice T 1 #[(0, x0)]) (hT : TI C.P T (.slice e) sz by_) (he : TI C.P e ke 10 be) (hz : TZ C.P e z) (hdst : o.dst = some d) (hm0 : σ.mem d = (n0, mo0)) (h0 : σ.look x0 = .a (kL k)) (hd : dOk C o.dst = true) :
    LOp C o σ ⟨.o (.osl d n0 10 0 1), [(d, (n0 + 1, some (.buf e 10 [kR k])))]⟩ (fun q => q == d) := lop_buildO (ps := [(0, kR k)]) ho hdst hm0 (.cons ⟨rfl, rfl, _, h0, rfl⟩ .nil) rfl (by decide) (by decide) hd
/-- another cart in an own slice's element -/
theorem lop_st_kd {C : Ctx} {o : Oper} {σ : St} {T : TypeId} {x y : Operand} {k : TK} {sz by_ : Nat} {ob g n ty i : Nat} {l : List Kd} {c : Crt} (ho : o.op = .store T x y) (hT : TI C.P T k sz by_) (hdst : o.dst = none) (hx : σ.look x = .o (.ptr ob g (i * 10 + 1))) (hy : σ.look y = .a (cL c.1 c.2 false)) (hm : σ.mem ob = (n, some (.buf ty 10 (l.map kR)))) (hs : sz = 9) (hn : n = g + 1) (hi : i < l.length) :
    LOp C o σ ⟨.un, [(ob, (n, some (.buf ty 10 ((l.set i ((l.getD i default).1, c)).map kR))))]⟩ (fun z => z == ob) := by
  have hg : (l.map kR)[i]? = some (kR (l.getD i default)) := by rw [List.getElem?_map, List.getElem?_eq_getElem hi, getD_at hi]; rfl
  have := lop_store_rowp (C := C) (o := o) (d := 1) (part := (kR ((l.getD i default).1, c)).drop 1) ho hdst hx hy rfl (by rw [hs]; rfl) hm hn hg (by omega)
  rw [hs] at this
  have e : (kR (l.getD i default)).take 1 ++ (kR ((l.getD i default).1, c)).drop 1 ++ (kR (l.getD i default)).drop (1 + 9) = kR ((l.getD i default).1, c) := rfl
  rwa [e, ← List.map_set] at this
namespace WD
theorem lopC {C : Ctx} {o : Oper} {σ : St} {e : Eff} {ro : Nat → Bool} (h : LOp C o σ e ro := by
    first
      | (apply lop_bzK; (focus rfl); (focus exact inferInstance); (focus exact inferInstance); (focus exact inferInstance); (focus rfl); (focus rfl); (focus rfl))
      | (apply lop_boK; (focus rfl); (focus exact inferInstance); (focus exact inferInstance); (focus exact inferInstance); (focus rfl); (focus rfl); (focus rfl); (focus rfl))
      | (apply gLoad; (focus rfl); apply lop_ld_bf; (focus rfl); (focus exact inferInstance); (focus rfl); (focus rfl); (focus rfl); (focus rfl); (focus rfl); (focus omega); (focus exact inferInstance); (focus rfl); (focus rfl))
      | exact WC.lopC
      | fail) : LOp C o σ e ro := h
section steps
variable {C : Ctx} {ops : Array Oper} {o : Oper} {rest : List Oper} {K : St → Prop} {σ : St} {e : Eff} {ro : Nat → Bool} {W : List (Nat × Nat)} {i : Nat}
theorem rnC {d : Nat} (hk : RunN C ops rest K (e.app (some d) σ)) (hg : Guard ops σ o true := by first | exact gd_n rfl rfl | exact gd_t rfl rfl rfl rfl | exact gd_t rfl rfl rfl (by assumption)) (hd : o.dst = some d := by rfl) (h : LOp C o σ e ro := by exact lopC) : RunN C ops (o :: rest) K σ := rn_any hg hd h hk
theorem rkC {d : Nat} (hk : RunK C ops W (i + 1) rest K (e.app (some d) σ)) (hg : Guard ops σ o true := by first | exact gd_n rfl rfl | exact gd_t rfl rfl rfl rfl | exact gd_t rfl rfl rfl (by assumption)) (hd' : o.dst = some d := by rfl) (hd : dOk C o.dst = true := by rfl) (h : LOp C o σ e ro := by exact lopC)
    (hro : ∀ x, ro x = true → okObj ops W i x = true := by first | exact fun _ => ro_none | exact ro_one rfl | exact ro_k1 rfl | exact ro_one (by kernel_rfl) | exact ro_k1 (by kernel_rfl) | exact ro_kIn (by decide)) (hob : ∀ p ∈ e.obj, (i, p.1) ∈ W := by first | exact ob_none | exact ob_one (by decide) | decide) : RunK C ops W i (o :: rest) K σ := rk_wr hg hd' hd h hro hob hk
end steps
end WD
open WD
theorem cloneK_o (l : List Kd) (ex : Bool) (h : l.length ≤ 1000000) : OCall Try.prog 47 [.p (.sl 10 (l.map kR) ex)] (fun _ => (0, none)) (.o (.osl 5 1 10 0 l.length)) (memL [(5, (2, some (.buf 36 10 (l.map kR))))]) := by
  refine ocall_ofF 5 Try.func47 rfl (fun w0 F S0 M0 => ?_)
  repeat' (first
      | refine rnC ?_
      | refine rnSB ?_
      | refine rnG ?_
      | refine rnU ?_
      | ((fail_if_success (refine rnKn ?_)); refine rnP ?_ ?_ <;> (intro hq; try (have hq' := hq; simp only [hqs] at hq')))
      | refine rkC ?_
      | refine rkSB ?_
      | refine rkF ?_
      | refine rkU ?_
      | ((fail_if_success (refine rkKn ?_)); refine rkP ?_ ?_ <;> (intro hq; try (have hq' := hq; simp only [hqs] at hq')))
      | refine stpR ?_
      | refine ifT ?_
      | refine ifF ?_
      | (refine ifQ ?_ ?_ <;> (try (intro hn)))
      | (refine ifB ?_ ?_ <;> (intro hq; try (have hq' := hq; simp only [hqs] at hq'))))
  · have e : l = [] := List.eq_nil_of_length_eq_zero (by have := congrArg List.length hn; rwa [List.length_map, List.length_nil] at this)
    subst e
    refine aws_says (says_bump (o := 5) (ty := 36) (es := 10) rfl (by decide)) ?_
    refine aws_says (says_nil (t := 2) (o := 5) (ty := 36) (es := 10) rfl rfl (by decide)) ?_
    as_aux_lemma =>
      repeat' (first
          | refine rnC ?_
          | refine rnSB ?_
          | refine rnG ?_
          | refine rnU ?_
          | ((fail_if_success (refine rnKn ?_)); refine rnP ?_ ?_ <;> (intro hq; try (have hq' := hq; simp only [hqs] at hq')))
          | refine rkC ?_
          | refine rkSB ?_
          | refine rkF ?_
          | refine rkU ?_
          | ((fail_if_success (refine rkKn ?_)); refine rkP ?_ ?_ <;> (intro hq; try (have hq' := hq; simp only [hqs] at hq')))
          | refine stp ?_
          | refine ifT ?_
          | refine ifF ?_
          | (refine ifQ ?_ ?_ <;> (try (intro hn)))
          | (refine ifB ?_ ?_ <;> (intro hq; try (have hq' := hq; simp only [hqs] at hq'))))
      exact RetO.mk (ot1 rfl rfl (.one (.kosl rfl)) rfl) ⟨.buf, trivial⟩
  · repeat' (first
    | refine rnC ?_
    | refine rnSB ?_
    | refine rnG ?_
    | refine rnU ?_
    | ((fail_if_success (refine rnKn ?_)); refine rnP ?_ ?_ <;> (intro hq; try (have hq' := hq; simp only [hqs] at hq')))
    | refine rkC ?_
    | refine rkSB ?_
    | refine rkF ?_
    | refine rkU ?_
    | ((fail_if_success (refine rkKn ?_)); refine rkP ?_ ?_ <;> (intro hq; try (have hq' := hq; simp only [hqs] at hq')))
    | refine stp ?_
    | refine ifT ?_
    | refine ifF ?_
    | (refine ifQ ?_ ?_ <;> (try (intro hn)))
    | (refine ifB ?_ ?_ <;> (intro hq; try (have hq' := hq; simp only [hqs] at hq'))))
    exact RetO.mk (ot1 rfl rfl (.one (.kosl rfl)) rfl) ⟨.buf, trivial⟩
instance cloneK_i {c k : Nat} {l : List Kd} {ex : Bool} : OC Try.prog 47 [.p (.sl 10 (l.map kR) ex)] [] [(c, k)] (l.length ≤ 1000000) (.o (.osl c (k + 1) 10 0 l.length)) [(c, (k + 2, some (.buf 36 10 (l.map kR))))] := ⟨fun h => (cloneK_o l ex h).fresh1 c k⟩
end Go.Proofs.Ytbfjcohocedoaaa.Wi
namespace Go.Proofs.Ytbfjcohocedoaaa.Wi
open Go Go.RowKit Go.Aw Go.Aw.Cart Go.Proofs.Ytbfjcohocedoaaa.Ca
set_option linter.unusedVariables false
set_option linter.unusedSimpArgs false
set_option maxRecDepth 8000
set_option maxHeartbeats 4000000
theorem setK_len (l : List Kd) (k : List Nat) (c : Crt) : (setK l k c).length = l.length := List.length_map _
theorem setK_id {l : List Kd} {k : List Nat} {c : Crt} (h : hasK l k = false) : setK l k c = l := by
  have hno : ∀ e ∈ l, e.1 ≠ k := fun e he q => by
    have := hasK_iff.2 ⟨e, he, q⟩
    rw [h] at this; cases this
  unfold setK
  conv => rhs; rw [← List.map_id l]
  exact List.map_congr_left fun e he => by rw [if_neg (hno e he)]; rfl
theorem hasK_step {l : List Kd} {k : List Nat} {i : Nat} (h : i < l.length) : hasK (l.take (i + 1)) k = (hasK (l.take i) k || decide ((l.getD i default).1 = k)) := by
  unfold hasK
  rw [List.take_succ_eq_append_getElem h, List.any_append, getD_at h]; simp
theorem cur_at {l : List Kd} {k : List Nat} {c : Crt} {i : Nat} (h : i < l.length) : (setK (l.take i) k c ++ l.drop i).getD i default = l.getD i default := by
  have hl : (setK (l.take i) k c).length = i := by rw [setK_len, List.length_take]; omega
  rw [List.getD_eq_getElem?_getD, List.getElem?_append_right (by omega), hl, Nat.sub_self, List.getElem?_drop, Nat.add_zero, ← List.getD_eq_getElem?_getD]
theorem cur_len (l : List Kd) (k : List Nat) (c : Crt) {i : Nat} (h : i ≤ l.length) : (setK (l.take i) k c ++ l.drop i).length = l.length := by
  rw [List.length_append, setK_len, List.length_take, List.length_drop]; omega
theorem cur_step {l : List Kd} {k : List Nat} {c : Crt} {i : Nat} (h : i < l.length) : setK (l.take (i + 1)) k c ++ l.drop (i + 1) = if (l.getD i default).1 = k then (setK (l.take i) k c ++ l.drop i).set i ((l.getD i default).1, c) else setK (l.take i) k c ++ l.drop i := by
  have hl : (setK (l.take i) k c).length = i := by rw [setK_len, List.length_take]; omega
  have e1 : setK (l.take (i + 1)) k c = setK (l.take i) k c ++ [if (l.getD i default).1 = k then ((l.getD i default).1, c) else l.getD i default] := by
    unfold setK
    rw [List.take_succ_eq_append_getElem h, List.map_append, getD_at h]; rfl
  have e2 : l.drop i = l.getD i default :: l.drop (i + 1) := by rw [List.drop_eq_getElem_cons h, getD_at h]
  rw [e1]
  split
  · rw [e2, List.set_append_right _ _ (by omega), hl, Nat.sub_self, List.set_cons_zero, List.append_assoc]; rfl
  · conv => rhs; rw [e2]
    rw [List.append_assoc]; rfl
theorem gt_is {k : List Nat} : ∀ {l : List Kd} {i : Nat}, i < l.length → bLt k (l.getD i default).1 = true → (∀ j, j < i → bLt k (l.getD j default).1 = false) → gtI l k = i
  | [], i, h, _, _ => absurd h (Nat.not_lt_zero _)
  | e :: l, 0, h, hk, _ => by
    have hk' : bLt k e.1 = true := hk
    rw [gtI, if_pos hk']
  | e :: l, i + 1, h, hk, hno => by
    have h0 : bLt k e.1 = false := hno 0 (by omega)
    rw [gtI, if_neg (by rw [h0]; simp), gt_is (l := l) (i := i) (by simpa using h) hk fun j hj => hno (j + 1) (by omega)]
theorem gt_none {k : List Nat} : ∀ {l : List Kd}, (∀ j, j < l.length → bLt k (l.getD j default).1 = false) → gtI l k = l.length
  | [], _ => rfl
  | e :: l, hno => by
    have h0 : bLt k e.1 = false := hno 0 (by simp)
    rw [gtI, if_neg (by rw [h0]; simp), gt_none (l := l) fun j hj => hno (j + 1) (by simpa using hj)]; rfl
namespace WE
theorem lopC {C : Ctx} {o : Oper} {σ : St} {e : Eff} {ro : Nat → Bool} (h : LOp C o σ e ro := by
    first
      | (apply lop_lend2; (focus rfl); (focus exact inferInstance); (focus rfl); (focus rfl); (focus rfl); (focus exact (List.length_map ..).symm); (focus first | exact lk_m1 rfl | exact lk_m2 rfl | exact lk_m3 rfl | exact lk_o rfl | exact lk_a2 rfl | exact lk_a3 rfl | exact lk_a4 rfl | exact lk_a1 rfl | exact lk_a5 rfl | exact lk_a6 rfl | exact lk_a7 rfl | exact lk_a8 rfl | exact lk_a rfl); (focus exact inferInstance); (focus exact inferInstance); (focus first | exact True.intro | assumption | rfl | omega | ((repeat' (first | assumption | refine And.intro ?_ ?_ | omega | rfl)); done) | fail); (focus exact RV.v); (focus rfl))
      | exact WD.lopC
      | fail) : LOp C o σ e ro := h
section steps
variable {C : Ctx} {ops : Array Oper} {o : Oper} {rest : List Oper} {K : St → Prop} {σ : St} {e : Eff} {ro : Nat → Bool} {W : List (Nat × Nat)} {i : Nat}
theorem rnC {d : Nat} (hk : RunN C ops rest K (e.app (some d) σ)) (hg : Guard ops σ o true := by first | exact gd_n rfl rfl | exact gd_t rfl rfl rfl rfl | exact gd_t rfl rfl rfl (by assumption)) (hd : o.dst = some d := by rfl) (h : LOp C o σ e ro := by exact lopC) : RunN C ops (o :: rest) K σ := rn_any hg hd h hk
theorem rkC {d : Nat} (hk : RunK C ops W (i + 1) rest K (e.app (some d) σ)) (hg : Guard ops σ o true := by first | exact gd_n rfl rfl | exact gd_t rfl rfl rfl rfl | exact gd_t rfl rfl rfl (by assumption)) (hd' : o.dst = some d := by rfl) (hd : dOk C o.dst = true := by rfl) (h : LOp C o σ e ro := by exact lopC)
    (hro : ∀ x, ro x = true → okObj ops W i x = true := by first | exact fun _ => ro_none | exact ro_one rfl | exact ro_k1 rfl | exact ro_one (by kernel_rfl) | exact ro_k1 (by kernel_rfl) | exact ro_kIn (by decide)) (hob : ∀ p ∈ e.obj, (i, p.1) ∈ W := by first | exact ob_none | exact ob_one (by decide) | decide) : RunK C ops W i (o :: rest) K σ := rk_wr hg hd' hd h hro hob hk
end steps
end WE
open WE
theorem cloneE_w (l : List Ent) (ex : Bool) (h : l.length ≤ 1000000) : PCall Try.prog 46 [.p (.sl 4 (l.map eR) ex)] (.p (.sl 4 (l.map eR) false)) := by
  refine pcall_of Try.func46 rfl (fun w0 F S0 M0 => ?_)
  as_aux_lemma =>
    repeat' (first
        | refine rnC ?_
        | refine rnSB ?_
        | refine rnG ?_
        | refine rnU ?_
        | ((fail_if_success (refine rnKn ?_)); refine rnP ?_ ?_ <;> (intro hq; try (have hq' := hq; simp only [hqs] at hq')))
        | refine rkC ?_
        | refine rkSB ?_
        | refine rkF ?_
        | refine rkU ?_
        | ((fail_if_success (refine rkKn ?_)); refine rkP ?_ ?_ <;> (intro hq; try (have hq' := hq; simp only [hqs] at hq')))
        | refine stp ?_
        | refine ifT ?_
        | refine ifF ?_
        | (refine ifQ ?_ ?_ <;> (try (intro hn)))
        | (refine ifB ?_ ?_ <;> (intro hq; try (have hq' := hq; simp only [hqs] at hq'))))
    · have e : l = [] := List.eq_nil_of_length_eq_zero (by have := congrArg List.length hn; rwa [List.length_map, List.length_nil] at this)
      subst e
      exact rt1 rfl rfl (.one .nil) rfl
    · exact rt1 rfl rfl finS_p rfl
theorem with_w (l : List Kd) (ex : Bool) (x : Kd) (ex2 : Bool) (hl : l.length ≤ 100000) (hin : ∀ k ∈ l, okB k.1) (hk : okB x.1) (hc : x.2.2.length ≤ 1000000) : PCall Try.prog 23 [.p (.sl 10 (l.map kR) ex), .p (.v (.string (strOf x.1))), cV x.2.1 x.2.2 ex2] (.p (.sl 10 ((withK l x.1 x.2).map kR) false)) := by
  refine pcall_of Try.func23 rfl (fun w0 F S0 M0 => ?_)
  haveI : PC Try.prog 46 [.p (.sl 4 (x.2.2.map eR) ex2)] True (.p (.sl 4 (x.2.2.map eR) false)) := ⟨fun _ => cloneE_w _ _ hc⟩
  obtain ⟨A, hA⟩ : ∃ A, A = idxK (fun e => bLt x.1 e.1) l 0 l.length := ⟨_, rfl⟩
  haveI : PC Try.prog 28 [.p (.sl 10 (l.map kR) false), .p (.fnv 48 [.bx [.v (.string (strOf x.1))] 0])] True (.p (.i A)) := ⟨fun _ => by rw [hA]; exact indexFuncK_w _ _ inferInstance (fun e => bLt x.1 e.1) l false (by omega) fun e he => with1_w e x.1 (hin e he) hk⟩
  repeat' (first
      | refine rnC ?_
      | refine rnSB ?_
      | refine rnG ?_
      | refine rnU ?_
      | ((fail_if_success (refine rnKn ?_)); refine rnP ?_ ?_ <;> (intro hq; try (have hq' := hq; simp only [hqs] at hq')))
      | refine rkC ?_
      | refine rkSB ?_
      | refine rkF ?_
      | refine rkU ?_
      | ((fail_if_success (refine rkKn ?_)); refine rkP ?_ ?_ <;> (intro hq; try (have hq' := hq; simp only [hqs] at hq')))
      | refine stp ?_
      | refine ifT ?_
      | refine ifF ?_
      | (refine ifQ ?_ ?_ <;> (try (intro hn)))
      | (refine ifB ?_ ?_ <;> (intro hq; try (have hq' := hq; simp only [hqs] at hq'))))
  refine aws_loopS [8, 9, 19, 20, 21, 22, 23, 24, 25, 26, 27, 28, 29, 30, 31, 32, 33, 34] [16] (fun (y : Nat × List Kd × Bool) => [(19, .p (.i y.1)), (8, .p (.b y.2.2))]) (fun y => [(16, (2, some (.buf 36 10 (y.2.1.map kR))))]) (fun y => y.1 ≤ l.length ∧ y.2.1 = setK (l.take y.1) x.1 x.2 ++ l.drop y.1 ∧ y.2.2 = hasK (l.take y.1) x.1) (fun y => l.length - y.1) (0, l, false) ⟨Nat.zero_le _, rfl, rfl⟩ (by exact knA) (by exact knA) ?_
  rintro ⟨i, cur, b⟩ β γ ⟨hi, hcur, hb⟩
  dsimp only at hi hcur hb ⊢
  have hcl : cur.length = l.length := by rw [hcur]; exact cur_len l x.1 x.2 hi
  by_cases hil : i < l.length
  · have d1 : decide ((i : Int) < (l.length : Int)) = true := decide_eq_true (by omega)
    have ei : (i : Int).toNat = i := Int.toNat_natCast i
    have hg : cur.getD (i : Int).toNat default = l.getD i default := by rw [ei, hcur]; exact cur_at hil
    have okc : okB (cur.getD (i : Int).toNat default).1 := by rw [hg, getD_at hil]; exact hin _ (List.getElem_mem _)
    have hst := cur_step (k := x.1) (c := x.2) hil
    have hbs := hasK_step (k := x.1) hil
    rw [← hcur] at hst
    rw [← hb] at hbs
    rw [← hg] at hst hbs
    by_cases he : (cur.getD (i : Int).toNat default).1 = x.1
    · have d2 : decide ((cur.getD (i : Int).toNat default).1 = x.1) = true := decide_eq_true he
      rw [if_pos he] at hst
      rw [d2, Bool.or_true] at hbs
      repeat' (first
          | refine rnC ?_
          | refine rnSB ?_
          | refine rnG ?_
          | refine rnU ?_
          | ((fail_if_success (refine rnKn ?_)); refine rnP ?_ ?_ <;> (intro hq; try (have hq' := hq; simp only [hqs] at hq')))
          | refine rkC ?_
          | refine rkSB ?_
          | refine rkF ?_
          | refine rkU ?_
          | ((fail_if_success (refine rkKn ?_)); refine rkP ?_ ?_ <;> (intro hq; try (have hq' := hq; simp only [hqs] at hq')))
          | refine stp ?_
          | refine aws_draws [] mixed (by kernel_rfl) ?_
          | refine ifT ?_
          | refine ifF ?_
          | (refine ifQ ?_ ?_ <;> (try (intro hn)))
          | (refine ifB ?_ ?_ <;> (intro hq; try (have hq' := hq; simp only [hqs] at hq'))))
      refine rn_sto (gd_n rfl rfl) rfl (lop_st_kd (ob := 16) (i := (i : Int).toNat) (c := x.2) rfl inferInstance rfl rfl rfl rfl rfl rfl (by omega)) ?_
      as_aux_lemma =>
        repeat' (first
            | refine rnC ?_
            | refine rnSB ?_
            | refine rnG ?_
            | refine rnU ?_
            | ((fail_if_success (refine rnKn ?_)); refine rnP ?_ ?_ <;> (intro hq; try (have hq' := hq; simp only [hqs] at hq')))
            | refine rkC ?_
            | refine rkSB ?_
            | refine rkF ?_
            | refine rkU ?_
            | ((fail_if_success (refine rkKn ?_)); refine rkP ?_ ?_ <;> (intro hq; try (have hq' := hq; simp only [hqs] at hq')))
            | refine stp ?_
            | refine ifT ?_
            | refine ifF ?_
            | (refine ifQ ?_ ?_ <;> (try (intro hn)))
            | (refine ifB ?_ ?_ <;> (intro hq; try (have hq' := hq; simp only [hqs] at hq'))))
        exact ⟨(i + 1, cur.set (i : Int).toNat ((cur.getD (i : Int).toNat default).1, x.2), true), _, by dsimp only; omega, ⟨by dsimp only; omega, by dsimp only; rw [hst, ei], hbs.symm⟩, .refl, by exact frA⟩
    · have d2 : decide ((cur.getD (i : Int).toNat default).1 = x.1) = false := decide_eq_false he
      rw [if_neg he] at hst
      rw [d2, Bool.or_false] at hbs
      as_aux_lemma =>
        repeat' (first
            | refine rnC ?_
            | refine rnSB ?_
            | refine rnG ?_
            | refine rnU ?_
            | ((fail_if_success (refine rnKn ?_)); refine rnP ?_ ?_ <;> (intro hq; try (have hq' := hq; simp only [hqs] at hq')))
            | refine rkC ?_
            | refine rkSB ?_
            | refine rkF ?_
            | refine rkU ?_
            | ((fail_if_success (refine rkKn ?_)); refine rkP ?_ ?_ <;> (intro hq; try (have hq' := hq; simp only [hqs] at hq')))
            | refine stp ?_
            | refine aws_draws [] mixed (by kernel_rfl) ?_
            | refine ifT ?_
            | refine ifF ?_
            | (refine ifQ ?_ ?_ <;> (try (intro hn)))
            | (refine ifB ?_ ?_ <;> (intro hq; try (have hq' := hq; simp only [hqs] at hq'))))
        exact ⟨(i + 1, cur, b), _, by dsimp only; omega, ⟨by dsimp only; omega, hst.symm, hbs.symm⟩, .refl, by exact frA⟩
  · have d1 : decide ((i : Int) < (l.length : Int)) = false := decide_eq_false (by omega)
    obtain rfl : i = l.length := by omega
    rw [List.take_length, List.drop_length, List.append_nil] at hcur
    rw [List.take_length] at hb
    unfold withK
    cases b with
    | true =>
      rw [if_pos hb.symm, ← hcur]
      clear hcur hA hin
      as_aux_lemma =>
        repeat' (first
            | refine rnC ?_
            | refine rnSB ?_
            | refine rnG ?_
            | refine rnU ?_
            | ((fail_if_success (refine rnKn ?_)); refine rnP ?_ ?_ <;> (intro hq; try (have hq' := hq; simp only [hqs] at hq')))
            | refine rkC ?_
            | refine rkSB ?_
            | refine rkF ?_
            | refine rkU ?_
            | ((fail_if_success (refine rkKn ?_)); refine rkP ?_ ?_ <;> (intro hq; try (have hq' := hq; simp only [hqs] at hq')))
            | refine stp ?_
            | refine aws_draws [] mixed (by kernel_rfl) ?_
            | refine ifT ?_
            | refine ifF ?_
            | (refine ifQ ?_ ?_ <;> (try (intro hn)))
            | (refine ifB ?_ ?_ <;> (intro hq; try (have hq' := hq; simp only [hqs] at hq'))))
        exact rt1 rfl rfl (.one (finC_map rfl rfl rfl (by omega))) rfl
    | false =>
      rw [if_neg (by rw [← hb]; simp)]
      rw [setK_id hb.symm] at hcur
      subst hcur
      have hin1 : ∀ j, j < cur.length → okB (cur.getD j default).1 := fun j hj => by rw [getD_at hj]; exact hin _ (List.getElem_mem _)
      have ins : ∀ i0 : Nat, i0 ≤ cur.length → OCAt Try.prog 49 [.o (.osl 16 1 10 0 cur.length), .p (.i (i0 : Int)), .o (.osl 49 0 10 0 1)] [(16, (2, some (.buf 36 10 (cur.map kR)))), (49, (1, some (.buf 36 10 [kR x])))] [] (.o (.osl 16 2 10 0 (cur.take i0 ++ x :: cur.drop i0).length)) [(16, (3, some (.buf 36 10 ((cur.take i0 ++ x :: cur.drop i0).map kR)))), (49, (1, some (.buf 36 10 [kR x])))] := fun i0 h0 => (insert_o 1 0 cur x i0 h0 (by omega)).two 16 49 (by decide)
      rcases idxK_found (p := fun e => bLt x.1 e.1) (l := cur) cur.length 0 (by omega) with ⟨h1, h2⟩ | ⟨i0, h1, -, h3, h4, h5⟩
      · rw [← hA] at h1
        rw [gt_none fun j hj => h2 j (Nat.zero_le _) hj]
        have hI := ins cur.length (Nat.le_refl _)
        have d2 : decide (A < 0) = true := decide_eq_true (by omega)
        clear hA h2 hin hin1 ins h1
        repeat' (first
            | refine rnC ?_
            | refine rnSB ?_
            | refine rnG ?_
            | refine rnU ?_
            | ((fail_if_success (refine rnKn ?_)); refine rnP ?_ ?_ <;> (intro hq; try (have hq' := hq; simp only [hqs] at hq')))
            | refine rkC ?_
            | refine rkSB ?_
            | refine rkF ?_
            | refine rkU ?_
            | ((fail_if_success (refine rkKn ?_)); refine rkP ?_ ?_ <;> (intro hq; try (have hq' := hq; simp only [hqs] at hq')))
            | refine stp ?_
            | refine ifT ?_
            | refine ifF ?_
            | (refine ifQ ?_ ?_ <;> (try (intro hn)))
            | (refine ifB ?_ ?_ <;> (intro hq; try (have hq' := hq; simp only [hqs] at hq'))))
        refine rn_any (gd_n rfl rfl) rfl (lop_ocall rfl inferInstance (.cons rfl (.cons rfl (.cons rfl .nil))) hI (by intro p hp; simp only [List.mem_cons, List.not_mem_nil, or_false] at hp; rcases hp with rfl | rfl <;> rfl) (by intro p hp; cases hp) (by intro p hp; simp only [List.mem_cons, List.not_mem_nil, or_false] at hp; rcases hp with rfl | rfl <;> rfl) (by intro p hp; cases hp) rfl) ?_
        as_aux_lemma =>
          repeat' (first
              | refine rnC ?_
              | refine rnSB ?_
              | refine rnG ?_
              | refine rnU ?_
              | ((fail_if_success (refine rnKn ?_)); refine rnP ?_ ?_ <;> (intro hq; try (have hq' := hq; simp only [hqs] at hq')))
              | refine rkC ?_
              | refine rkSB ?_
              | refine rkF ?_
              | refine rkU ?_
              | ((fail_if_success (refine rkKn ?_)); refine rkP ?_ ?_ <;> (intro hq; try (have hq' := hq; simp only [hqs] at hq')))
              | refine stp ?_
              | refine ifT ?_
              | refine ifF ?_
              | (refine ifQ ?_ ?_ <;> (try (intro hn)))
              | (refine ifB ?_ ?_ <;> (intro hq; try (have hq' := hq; simp only [hqs] at hq'))))
          exact rt1 rfl rfl (.one (finC_map rfl rfl rfl rfl)) rfl
      · rw [← hA] at h1
        rw [gt_is h3 h4 fun j hj => h5 j (Nat.zero_le _) hj]
        have hI := ins i0 (by omega)
        clear hA h4 h5 hin hin1 ins
        subst h1
        have d2 : decide ((i0 : Int) < 0) = false := decide_eq_false (by omega)
        repeat' (first
            | refine rnC ?_
            | refine rnSB ?_
            | refine rnG ?_
            | refine rnU ?_
            | ((fail_if_success (refine rnKn ?_)); refine rnP ?_ ?_ <;> (intro hq; try (have hq' := hq; simp only [hqs] at hq')))
            | refine rkC ?_
            | refine rkSB ?_
            | refine rkF ?_
            | refine rkU ?_
            | ((fail_if_success (refine rkKn ?_)); refine rkP ?_ ?_ <;> (intro hq; try (have hq' := hq; simp only [hqs] at hq')))
            | refine stp ?_
            | refine ifT ?_
            | refine ifF ?_
            | (refine ifQ ?_ ?_ <;> (try (intro hn)))
            | (refine ifB ?_ ?_ <;> (intro hq; try (have hq' := hq; simp only [hqs] at hq'))))
        refine rn_any (gd_n rfl rfl) rfl (lop_ocall rfl inferInstance (.cons rfl (.cons rfl (.cons rfl .nil))) hI (by intro p hp; simp only [List.mem_cons, List.not_mem_nil, or_false] at hp; rcases hp with rfl | rfl <;> rfl) (by intro p hp; cases hp) (by intro p hp; simp only [List.mem_cons, List.not_mem_nil, or_false] at hp; rcases hp with rfl | rfl <;> rfl) (by intro p hp; cases hp) rfl) ?_
        as_aux_lemma =>
          repeat' (first
              | refine rnC ?_
              | refine rnSB ?_
              | refine rnG ?_
              | refine rnU ?_
              | ((fail_if_success (refine rnKn ?_)); refine rnP ?_ ?_ <;> (intro hq; try (have hq' := hq; simp only [hqs] at hq')))
              | refine rkC ?_
              | refine rkSB ?_
              | refine rkF ?_
              | refine rkU ?_
              | ((fail_if_success (refine rkKn ?_)); refine rkP ?_ ?_ <;> (intro hq; try (have hq' := hq; simp only [hqs] at hq')))
              | refine stp ?_
              | refine ifT ?_
              | refine ifF ?_
              | (refine ifQ ?_ ?_ <;> (try (intro hn)))
              | (refine ifB ?_ ?_ <;> (intro hq; try (have hq' := hq; simp only [hqs] at hq'))))
          exact rt1 rfl rfl (.one (finC_map rfl rfl rfl rfl)) rfl
end Go.Proofs.Ytbfjcohocedoaaa.Wi
