/- packs: slices.Insert of one element into an own slice; THE ABSTRACT WALK, part 32: a part of an element of an own slice is written. Nothing here speaks of a program. -/
import Derived.Test.YtclcfjejpogdlaaGreatPP23
import Derived.Test.YtclcfjejpogdlaaGreatPP25
namespace Go.Proofs.YtclcfjejpogdlaaGreat.Wi
open Go Go.RowKit Go.Aw Go.Aw.Cart Go.Proofs.YtclcfjejpogdlaaGreat.Ca
set_option linter.unusedVariables false
set_option linter.unusedSimpArgs false
set_option maxRecDepth 8000
set_option maxHeartbeats 4000000
namespace WI
theorem lopC {C : Ctx} {o : Oper} {σ : St} {e : Eff} {ro : Nat → Bool} (h : LOp C o σ e ro := by
    first | (apply lop_cap_asl; (focus rfl); (focus exact inferInstance); (focus rfl); (focus rfl)) | exact lop_len_asl rfl rfl rfl | (apply lop_sl_asl_l; (focus rfl); (focus exact inferInstance); (focus exact inferInstance); (focus rfl); (focus rfl); (focus omega); (focus omega); (focus omega); (focus omega); (focus rfl)) | (apply lop_sl_asl_h; (focus rfl); (focus exact inferInstance); (focus exact inferInstance); (focus rfl); (focus rfl); (focus omega); (focus omega); (focus rfl)) | (apply lop_sl_osl_l; (focus rfl); (focus exact inferInstance); (focus exact inferInstance); (focus rfl); (focus rfl); (focus omega); (focus omega); (focus rfl)) | (apply lop_sl_osl_u; (focus rfl); (focus exact inferInstance); (focus exact inferInstance); (focus rfl); (focus rfl); (focus omega); (focus omega); (focus rfl)) | exact W9.lopC | fail) : LOp C o σ e ro := h
section steps
variable {C : Ctx} {ops : Array Oper} {o : Oper} {rest : List Oper} {K : St → Prop} {σ : St} {e : Eff} {ro : Nat → Bool} {W : List (Nat × Nat)} {i : Nat}
theorem rnC {d : Nat} (hk : RunN C ops rest K (e.app (some d) σ)) (hg : Guard ops σ o true := by first | exact gd_n rfl rfl | exact gd_t rfl rfl rfl rfl | exact gd_t rfl rfl rfl (by assumption)) (hd : o.dst = some d := by rfl) (h : LOp C o σ e ro := by exact lopC) : RunN C ops (o :: rest) K σ := rn_any hg hd h hk
theorem rkC {d : Nat} (hk : RunK C ops W (i + 1) rest K (e.app (some d) σ)) (hg : Guard ops σ o true := by first | exact gd_n rfl rfl | exact gd_t rfl rfl rfl rfl | exact gd_t rfl rfl rfl (by assumption)) (hd' : o.dst = some d := by rfl) (hd : dOk C o.dst = true := by rfl) (h : LOp C o σ e ro := by exact lopC)
    (hro : ∀ x, ro x = true → okObj ops W i x = true := by first | exact fun _ => ro_none | exact ro_one rfl | exact ro_k1 rfl | exact ro_one (by kernel_rfl) | exact ro_k1 (by kernel_rfl) | exact ro_kIn (by decide)) (hob : ∀ p ∈ e.obj, (i, p.1) ∈ W := by first | exact ob_none | exact ob_one (by decide) | decide) : RunK C ops W i (o :: rest) K σ := rk_wr hg hd' hd h hro hob hk
end steps
end WI
open WI
abbrev kT := 148
theorem ovl_f : OvF Tryz.prog 278 22 4 := ⟨_, Tryz.func278, by kernel_rfl, by kernel_rfl, by kernel_rfl, by kernel_rfl⟩
theorem ins_rows1 {α : Type} (rows : List α) (xr zr : α) (i : Nat) (hi : i < rows.length) (A R : List α) (hA : A = rows.take i ++ List.replicate (rows.length + 1 - i) zr) (hR : R = A.take i ++ [xr] ++ A.drop (i + 1)) :
    R.take (i + 1) ++ (rows.drop i).take (rows.length - i) ++ R.drop (i + 1 + (rows.length - i)) = rows.take i ++ xr :: rows.drop i := by
  have hl : (rows.take i).length = i := by rw [List.length_take]; omega
  have hAl : A.length = rows.length + 1 := by rw [hA, List.length_append, hl, List.length_replicate]; omega
  have hAt : A.take i = rows.take i := by
    rw [hA]
    exact List.take_left' hl
  have hRl : R.length = rows.length + 1 := by rw [hR, List.length_append, List.length_append, hAt, hl, List.length_drop, hAl, List.length_singleton]; omega
  have h1 : R.take (i + 1) = rows.take i ++ [xr] := by
    have e : (rows.take i ++ [xr]).length = i + 1 := by rw [List.length_append, hl]; rfl
    rw [hR, hAt]
    exact List.take_left' e
  have h2 : R.drop (i + 1 + (rows.length - i)) = [] := List.drop_of_length_le (by omega)
  have h3 : (rows.drop i).take (rows.length - i) = rows.drop i := List.take_of_length_le (by rw [List.length_drop]; omega)
  rw [h1, h2, h3, List.append_nil, List.append_assoc]; rfl
theorem ins_len1 {α : Type} (rows : List α) (xr zr : α) (i : Nat) (hi : i < rows.length) (A R : List α) (hA : A = rows.take i ++ List.replicate (rows.length + 1 - i) zr) (hR : R = A.take i ++ [xr] ++ A.drop (i + 1)) : R.length = rows.length + 1 := by
  have hl : (rows.take i).length = i := by rw [List.length_take]; omega
  have hAl : A.length = rows.length + 1 := by rw [hA, List.length_append, hl, List.length_replicate]; omega
  rw [hR, List.length_append, List.length_append, List.length_take, List.length_drop, hAl, List.length_singleton]; omega
theorem ins_len2 {α : Type} (rows : List α) (i : Nat) (hi : i < rows.length) (R : List α) (hR : R = rows.take (i + 1) ++ (rows.drop i).take (rows.length - i) ++ rows.drop (i + 1 + (rows.length - i))) : R.length = rows.length + 1 := by
  rw [hR, List.length_append, List.length_append, List.length_take, List.length_take, List.length_drop, List.length_drop]; omega
theorem ins_rows2 {α : Type} (rows : List α) (xr : α) (i : Nat) (hi : i < rows.length) (R : List α) (hR : R = rows.take (i + 1) ++ (rows.drop i).take (rows.length - i) ++ rows.drop (i + 1 + (rows.length - i))) :
    R.take i ++ [xr] ++ R.drop (i + 1) = rows.take i ++ xr :: rows.drop i := by
  have hl : (rows.take (i + 1)).length = i + 1 := by rw [List.length_take]; omega
  have h2 : rows.drop (i + 1 + (rows.length - i)) = [] := List.drop_of_length_le (by omega)
  have h3 : (rows.drop i).take (rows.length - i) = rows.drop i := List.take_of_length_le (by rw [List.length_drop]; omega)
  rw [h2, h3, List.append_nil] at hR
  have h1 : R.take i = rows.take i := by
    rw [hR, List.take_append_of_le_length (by omega), List.take_take, Nat.min_eq_left (by omega)]
  have h2 : R.drop (i + 1) = rows.drop i := by
    rw [hR]
    exact List.drop_left' hl
  rw [h1, h2, List.append_assoc]; rfl
abbrev zR : List Value := [.string ByteArray.empty, .int .u64 0, .int .u64 0, .int .u64 0, .int .u64 0, .int .u64 0, .int .u64 0, .int .u64 0, .int .u64 0, .slice none 0 0]
theorem zR_one : ∀ v ∈ zR, v.oneCell' = true := by
  intro v hv
  simp only [zR, List.mem_cons, List.not_mem_nil, or_false] at hv
  rcases hv with rfl | rfl | rfl | rfl | rfl | rfl | rfl | rfl | rfl | rfl <;> rfl
theorem insert_o (g gd : Nat) (l : List Kd) (x : Kd) (i : Nat) (hi : i ≤ l.length) (hl : l.length ≤ 1000000) : OCall Tryz.prog 258 [.o (.osl 1000 g 10 0 l.length), .p (.i (i : Int)), .o (.osl 1001 gd 10 0 1)]
    (memL [(1000, (g + 1, some (.buf kT 10 (l.map kR)))), (1001, (gd + 1, some (.buf kT 10 [kR x])))]) (.o (.osl 1000 (g + 1) 10 0 (l.take i ++ x :: l.drop i).length)) (memL [(1000, (g + 2, some (.buf kT 10 ((l.take i ++ x :: l.drop i).map kR)))), (1001, (gd + 1, some (.buf kT 10 [kR x])))]) := by
  refine ocall_of22 Tryz.func258 rfl (fun w0 F S0 M0 => ?_)
  have d0 : decide (((1 : Nat) : Int) = 0) = false := by decide
  have hnl : (l.take i ++ x :: l.drop i).length = l.length + 1 := by rw [List.length_append, List.length_cons, List.length_take, List.length_drop]; omega
  rw [hnl]
  by_cases he : i = l.length
  · have d1 : decide ((i : Int) = (l.length : Int)) = true := decide_eq_true (by omega)
    rw [show (l.take i ++ x :: l.drop i).map kR = l.map kR ++ [kR x] by rw [he, List.take_length, List.drop_length, List.map_append]; rfl]
    repeat' (first | refine rnC ?_ | refine rnSB ?_ | refine rnG ?_ | refine rnU ?_ | ((fail_if_success (refine rnKn ?_)); refine rnP ?_ ?_ <;> (intro hq; try (have hq' := hq; simp only [hqs] at hq'))) | refine rkC ?_ | refine rkSB ?_ | refine rkF ?_ | refine rkU ?_ | ((fail_if_success (refine rkKn ?_)); refine rkP ?_ ?_ <;> (intro hq; try (have hq' := hq; simp only [hqs] at hq'))) | refine stp ?_ | refine ifT ?_ | refine ifF ?_ | (refine ifQ ?_ ?_ <;> (try (intro hn))) | (refine ifB ?_ ?_ <;> (intro hq; try (have hq' := hq; simp only [hqs] at hq'))))
    refine rn_any (gd_n rfl rfl) rfl (lop_append_osl (es := 10) (rows := l.map kR) (news := [kR x]) rfl rfl rfl rfl (by rw [List.length_map]) (src_osl (x := .tmp 24) (rows := [kR x]) (lo := 0) (len := 1) rfl rfl rfl (Nat.le_refl _)) rfl (by rw [List.length_map]; simp only [maxLen, List.length_cons, List.length_nil]; omega) (by rw [List.length_map]; simp only [List.length_cons, List.length_nil]; omega) rfl) ?_
    as_aux_lemma =>
      repeat' (first | refine rnC ?_ | refine rnSB ?_ | refine rnG ?_ | refine rnU ?_ | ((fail_if_success (refine rnKn ?_)); refine rnP ?_ ?_ <;> (intro hq; try (have hq' := hq; simp only [hqs] at hq'))) | refine rkC ?_ | refine rkSB ?_ | refine rkF ?_ | refine rkU ?_ | ((fail_if_success (refine rkKn ?_)); refine rkP ?_ ?_ <;> (intro hq; try (have hq' := hq; simp only [hqs] at hq'))) | refine stp ?_ | refine ifT ?_ | refine ifF ?_ | (refine ifQ ?_ ?_ <;> (try (intro hn))) | (refine ifB ?_ ?_ <;> (intro hq; try (have hq' := hq; simp only [hqs] at hq'))))
      exact RetO.mk (ot1 rfl rfl (.one (.kosl rfl)) (by rw [List.length_map]; rfl)) ⟨.buf, .buf, trivial⟩
  · have d1 : decide ((i : Int) = (l.length : Int)) = false := decide_eq_false (by omega)
    have hil : i < l.length := by omega
    refine aws_endS ?_
    refine aws_cap (t := 0) (o := 1000) rfl rfl rfl (by rw [List.length_map]; omega) fun c hc1 hc2 => ?_
    rw [List.length_map] at hc1
    simp only [maxLen] at hc2
    have hm : (l.take i ++ x :: l.drop i).map kR = (l.map kR).take i ++ kR x :: (l.map kR).drop i := by rw [List.map_append, List.map_cons, List.map_take, List.map_drop]
    rw [hm]
    have hrl : (l.map kR).length = l.length := List.length_map _
    by_cases hg : c < l.length + 1
    · have d2 : decide ((c : Int) < (l.length : Int) + ((1 : Nat) : Int)) = true := decide_eq_true (by omega)
      have hE := ins_rows1 (l.map kR) (kR x) (zR.map PVal.v) i (by rw [hrl]; exact hil) _ _ rfl rfl
      have hRl := ins_len1 (l.map kR) (kR x) (zR.map PVal.v) i (by rw [hrl]; exact hil) _ _ rfl rfl
      rw [hrl] at hE hRl
      rw [← hE]
      repeat' (first | refine rnC ?_ | refine rnSB ?_ | refine rnG ?_ | refine rnU ?_ | ((fail_if_success (refine rnKn ?_)); refine rnP ?_ ?_ <;> (intro hq; try (have hq' := hq; simp only [hqs] at hq'))) | refine rkC ?_ | refine rkSB ?_ | refine rkF ?_ | refine rkU ?_ | ((fail_if_success (refine rkKn ?_)); refine rkP ?_ ?_ <;> (intro hq; try (have hq' := hq; simp only [hqs] at hq'))) | refine stp ?_ | refine ifT ?_ | refine ifF ?_ | (refine ifQ ?_ ?_ <;> (try (intro hn))) | (refine ifB ?_ ?_ <;> (intro hq; try (have hq' := hq; simp only [hqs] at hq'))))
      refine rn_any (gd_n rfl rfl) rfl (lop_ap_zc (k := l.length + 1 - i) (len1 := i) (z := zR) rfl inferInstance inferInstance inferInstance inferInstance rfl zR_one rfl rfl rfl rfl rfl (by omega) (by omega) (by rw [hrl]; omega) (by omega) (by omega) (by omega) rfl (by decide) rfl) ?_
      repeat' (first | refine rnC ?_ | refine rnSB ?_ | refine rnG ?_ | refine rnU ?_ | ((fail_if_success (refine rnKn ?_)); refine rnP ?_ ?_ <;> (intro hq; try (have hq' := hq; simp only [hqs] at hq'))) | refine rkC ?_ | refine rkSB ?_ | refine rkF ?_ | refine rkU ?_ | ((fail_if_success (refine rkKn ?_)); refine rkP ?_ ?_ <;> (intro hq; try (have hq' := hq; simp only [hqs] at hq'))) | refine stp ?_ | refine ifT ?_ | refine ifF ?_ | (refine ifQ ?_ ?_ <;> (try (intro hn))) | (refine ifB ?_ ?_ <;> (intro hq; try (have hq' := hq; simp only [hqs] at hq'))))
      refine rn_any (gd_n rfl rfl) rfl (lop_cp_o (ob := 40) (d := i) (k := 1) rfl inferInstance inferInstance rfl rfl rfl ((src_osl (x := .tmp 44) (rows := [kR x]) (lo := 0) (len := 1) rfl rfl rfl (Nat.le_refl _)).n (Nat.succ_pos 0)) (by show Nat.min 1 _ = 1; exact Nat.min_eq_left (by omega)) (Nat.le_refl 1) (by decide) (by rw [List.length_append, List.length_take, hrl, List.length_replicate]; omega) rfl) ?_
      repeat' (first | refine rnC ?_ | refine rnSB ?_ | refine rnG ?_ | refine rnU ?_ | ((fail_if_success (refine rnKn ?_)); refine rnP ?_ ?_ <;> (intro hq; try (have hq' := hq; simp only [hqs] at hq'))) | refine rkC ?_ | refine rkSB ?_ | refine rkF ?_ | refine rkU ?_ | ((fail_if_success (refine rkKn ?_)); refine rkP ?_ ?_ <;> (intro hq; try (have hq' := hq; simp only [hqs] at hq'))) | refine stp ?_ | refine ifT ?_ | refine ifF ?_ | (refine ifQ ?_ ?_ <;> (try (intro hn))) | (refine ifB ?_ ?_ <;> (intro hq; try (have hq' := hq; simp only [hqs] at hq'))))
      refine aws_draws [(8, 40)] mixed (by kernel_rfl) ?_
      repeat' (first | refine rk_nil ?_ | refine rkC ?_ | refine rkSB ?_ | refine rkF ?_ | refine rkU ?_ | ((fail_if_success (refine rkKn ?_)); refine rkP ?_ ?_ <;> (intro hq; try (have hq' := hq; simp only [hqs] at hq'))))
      refine rk_wr (gd_n rfl rfl) rfl rfl (lop_cp_o (ob := 40) (d := i + 1) (k := l.length - i) rfl inferInstance inferInstance rfl rfl rfl (src_aslC (x := .tmp 53) (ob := 1000) (d := i) rfl rfl rfl (by show 0 + (i : Int).toNat * 10 = i * 10; rw [Nat.zero_add]; rfl)) (by show Nat.min (l.length - i) _ = l.length - i; exact Nat.min_eq_left (by omega)) (by rw [List.length_drop, hrl]; exact Nat.le_refl _) (by omega) (Nat.le_trans (show i + 1 + (i + (l.length + 1 - i) - ((i : Int) + ((1 : Nat) : Int)).toNat) ≤ l.length + 1 by omega) (Nat.le_of_eq hRl.symm)) rfl) (by intro q hq; simp only [Bool.or_eq_true, beq_iff_eq] at hq; rcases hq with rfl | rfl <;> kernel_rfl) (ob_one (by decide)) ?_
      repeat' (first | refine rk_nil ?_ | refine rkC ?_ | refine rkSB ?_ | refine rkF ?_ | refine rkU ?_ | ((fail_if_success (refine rkKn ?_)); refine rkP ?_ ?_ <;> (intro hq; try (have hq' := hq; simp only [hqs] at hq'))))
      as_aux_lemma =>
        repeat' (first | refine rnC ?_ | refine rnSB ?_ | refine rnG ?_ | refine rnU ?_ | ((fail_if_success (refine rnKn ?_)); refine rnP ?_ ?_ <;> (intro hq; try (have hq' := hq; simp only [hqs] at hq'))) | refine rkC ?_ | refine rkSB ?_ | refine rkF ?_ | refine rkU ?_ | ((fail_if_success (refine rkKn ?_)); refine rkP ?_ ?_ <;> (intro hq; try (have hq' := hq; simp only [hqs] at hq'))) | refine stp ?_ | refine ifT ?_ | refine ifF ?_ | (refine ifQ ?_ ?_ <;> (try (intro hn))) | (refine ifB ?_ ?_ <;> (intro hq; try (have hq' := hq; simp only [hqs] at hq'))))
        exact ⟨_, says_mv (t := 6) (o := 1000) (o2 := 40) rfl rfl rfl rfl (by decide), RetO.mk (ot1 rfl rfl (.one (.kosl rfl)) (by rw [show i + (l.length + 1 - i) = l.length + 1 by omega])) ⟨.buf, .buf, trivial⟩⟩
    · have d2 : decide ((c : Int) < (l.length : Int) + ((1 : Nat) : Int)) = false := decide_eq_false (by omega)
      have hE := ins_rows2 (l.map kR) (kR x) i (by rw [hrl]; exact hil) _ rfl
      have hRl := ins_len2 (l.map kR) i (by rw [hrl]; exact hil) _ rfl
      rw [hrl] at hE hRl
      have hR2 := (congrArg List.length hE).trans (show ((l.map kR).take i ++ kR x :: (l.map kR).drop i).length = l.length + 1 by rw [List.length_append, List.length_cons, List.length_take, List.length_drop, hrl]; omega)
      rw [← hE]
      repeat' (first | refine rnC ?_ | refine rnSB ?_ | refine rnG ?_ | refine rnU ?_ | ((fail_if_success (refine rnKn ?_)); refine rnP ?_ ?_ <;> (intro hq; try (have hq' := hq; simp only [hqs] at hq'))) | refine rkC ?_ | refine rkSB ?_ | refine rkF ?_ | refine rkU ?_ | ((fail_if_success (refine rkKn ?_)); refine rkP ?_ ?_ <;> (intro hq; try (have hq' := hq; simp only [hqs] at hq'))) | refine stp ?_ | refine ifT ?_ | refine ifF ?_ | (refine ifQ ?_ ?_ <;> (try (intro hn))) | (refine ifB ?_ ?_ <;> (intro hq; try (have hq' := hq; simp only [hqs] at hq'))))
      refine rn_any (gd_n rfl rfl) rfl (lop_ovl (ob := 1000) (d := 1001) ovl_f inferInstance inferInstance rfl rfl rfl rfl rfl rfl rfl (Nat.succ_pos _) (by rw [hrl]; omega) (by decide) rfl) ?_
      have d3 : (!false) = true := rfl
      repeat' (first | refine rnC ?_ | refine rnSB ?_ | refine rnG ?_ | refine rnU ?_ | ((fail_if_success (refine rnKn ?_)); refine rnP ?_ ?_ <;> (intro hq; try (have hq' := hq; simp only [hqs] at hq'))) | refine rkC ?_ | refine rkSB ?_ | refine rkF ?_ | refine rkU ?_ | ((fail_if_success (refine rkKn ?_)); refine rkP ?_ ?_ <;> (intro hq; try (have hq' := hq; simp only [hqs] at hq'))) | refine stp ?_ | refine ifT ?_ | refine ifF ?_ | (refine ifQ ?_ ?_ <;> (try (intro hn))) | (refine ifB ?_ ?_ <;> (intro hq; try (have hq' := hq; simp only [hqs] at hq'))))
      refine aws_draws [(8, 1000)] mixed (by kernel_rfl) ?_
      repeat' (first | refine rk_nil ?_ | refine rkC ?_ | refine rkSB ?_ | refine rkF ?_ | refine rkU ?_ | ((fail_if_success (refine rkKn ?_)); refine rkP ?_ ?_ <;> (intro hq; try (have hq' := hq; simp only [hqs] at hq'))))
      refine rk_wr (gd_n rfl rfl) rfl rfl (lop_cp_c (ob := 1000) (d := i + 1) (c := c) (k := l.length - i) rfl inferInstance inferInstance rfl rfl rfl (by show 0 + ((i : Int) + ((1 : Nat) : Int)).toNat * 10 = (i + 1) * 10; rw [show ((i : Int) + ((1 : Nat) : Int)).toNat = i + 1 by omega, Nat.zero_add]) (src_aslC (x := .tmp 76) (ob := 1000) (d := i) rfl rfl rfl (by show 0 + (i : Int).toNat * 10 = i * 10; rw [Nat.zero_add]; rfl)) (by show Nat.min (((l.length : Int) + ((1 : Nat) : Int)).toNat - (i : Int).toNat) (((l.length : Int) + ((1 : Nat) : Int)).toNat - ((i : Int) + ((1 : Nat) : Int)).toNat) = l.length - i; exact (Nat.min_eq_right (show ((l.length : Int) + ((1 : Nat) : Int)).toNat - ((i : Int) + ((1 : Nat) : Int)).toNat ≤ ((l.length : Int) + ((1 : Nat) : Int)).toNat - (i : Int).toNat by omega)).trans (by omega)) (by rw [List.length_drop, hrl]; exact Nat.le_refl _) (by omega) (by rw [hrl]; omega) (by omega) rfl) (by intro q hq; simp only [Bool.or_eq_true, beq_iff_eq, or_self] at hq; subst hq; kernel_rfl) (ob_one (by decide)) ?_
      repeat' (first | refine rk_nil ?_ | refine rkC ?_ | refine rkSB ?_ | refine rkF ?_ | refine rkU ?_ | ((fail_if_success (refine rkKn ?_)); refine rkP ?_ ?_ <;> (intro hq; try (have hq' := hq; simp only [hqs] at hq'))))
      repeat' (first | refine rnC ?_ | refine rnSB ?_ | refine rnG ?_ | refine rnU ?_ | ((fail_if_success (refine rnKn ?_)); refine rnP ?_ ?_ <;> (intro hq; try (have hq' := hq; simp only [hqs] at hq'))) | refine rkC ?_ | refine rkSB ?_ | refine rkF ?_ | refine rkU ?_ | ((fail_if_success (refine rkKn ?_)); refine rkP ?_ ?_ <;> (intro hq; try (have hq' := hq; simp only [hqs] at hq'))) | refine stp ?_ | refine ifT ?_ | refine ifF ?_ | (refine ifQ ?_ ?_ <;> (try (intro hn))) | (refine ifB ?_ ?_ <;> (intro hq; try (have hq' := hq; simp only [hqs] at hq'))))
      refine rn_any (gd_n rfl rfl) rfl (lop_cp_c (ob := 1000) (d := i) (c := c) (k := 1) rfl inferInstance inferInstance rfl rfl rfl (by show 0 + (i : Int).toNat * 10 = i * 10; rw [Nat.zero_add]; rfl) ((src_osl (x := .tmp 81) (rows := [kR x]) (lo := 0) (len := 1) rfl rfl rfl (Nat.le_refl _)).n (Nat.succ_pos 0)) (by show Nat.min 1 (((l.length : Int) + ((1 : Nat) : Int)).toNat - (i : Int).toNat) = 1; exact Nat.min_eq_left (by omega)) (Nat.le_refl 1) (by decide) (Nat.le_trans (show i ≤ l.length + 1 by omega) (Nat.le_of_eq hRl.symm)) (by omega) rfl) ?_
      as_aux_lemma =>
        repeat' (first | refine rnC ?_ | refine rnSB ?_ | refine rnG ?_ | refine rnU ?_ | ((fail_if_success (refine rnKn ?_)); refine rnP ?_ ?_ <;> (intro hq; try (have hq' := hq; simp only [hqs] at hq'))) | refine rkC ?_ | refine rkSB ?_ | refine rkF ?_ | refine rkU ?_ | ((fail_if_success (refine rkKn ?_)); refine rkP ?_ ?_ <;> (intro hq; try (have hq' := hq; simp only [hqs] at hq'))) | refine stp ?_ | refine ifT ?_ | refine ifF ?_ | (refine ifQ ?_ ?_ <;> (try (intro hn))) | (refine ifB ?_ ?_ <;> (intro hq; try (have hq' := hq; simp only [hqs] at hq'))))
        exact ⟨_, says_uncap (t := 6) (o := 1000) (c := c) rfl rfl rfl (Eq.trans (show ((l.length : Int) + ((1 : Nat) : Int)).toNat = l.length + 1 by omega) hR2.symm), RetO.mk (ot1 rfl rfl (.one (.kosl rfl)) (by rw [show ((l.length : Int) + ((1 : Nat) : Int)).toNat = l.length + 1 by omega])) ⟨.buf, .buf, trivial⟩⟩
end Go.Proofs.YtclcfjejpogdlaaGreat.Wi
namespace Go.Aw
open Go Go.RowKit
set_option linter.unusedVariables false
set_option linter.unusedSimpArgs false
theorem lop_store_rowp {C : Ctx} {o : Oper} {σ : St} {T : TypeId} {x y : Operand} {k : TK} {sz by_ : Nat} [hT : TI C.P T k sz by_] {ob g n ty i es d : Nat} {rows : List (List PVal)} {old part : List PVal} {s : SV} (ho : o.op = .store T x y) (hdst : o.dst = none) (hx : σ.look x = .o (.ptr ob g (i * es + d))) (hy : σ.look y = .s s)
    (hsc : s.cells = part.map .p) (hrl : part.length = sz) (hm : σ.mem ob = (n, some (.buf ty es rows))) (hn : n = g + 1) (hi : rows[i]? = some old) (hde : d + sz ≤ es) : LOp C o σ ⟨.un, [(ob, (n, some (.buf ty es (rows.set i (old.take d ++ part ++ old.drop (d + sz))))))]⟩ (fun z => z == ob) :=
  lop_same (by simp) (by rw [hdst]; rfl) hm fun τ a w G g0 m hl' hm' h hng hmm hh => by
    subst hn
    obtain rfl : g = g0 := by omega
    obtain ⟨b, c', h1, h2⟩ := look_of h ((hl' x (by simp [ho, Op.operands])).trans hx)
    have h3 : s.holds G.μ ⟨w, G.S⟩ (a.eval y) := look_of h ((hl' y (by simp [ho, Op.operands])).trans hy)
    obtain ⟨hes, hmax, hrl2, hh⟩ := hh
    rw [h1] at hmm; obtain rfl := Option.some.inj hmm
    have hil : i < rows.length := (List.getElem?_eq_some_iff.1 hi).1
    rcases hh with ⟨h4, _⟩ | ⟨b', arr, h4, h5, h6, h7, h8⟩
    · simp at h4
    · simp only [Option.some.injEq] at h4; subst h4
      have h9 := h3.cells
      rw [hsc] at h9
      have hvl : (a.eval y).cells.toList.length = sz := by rw [← h9.1]; simpa using hrl
      have hone : ∀ u ∈ (a.eval y).cells.toList, u.oneCell' = true := fun u hu => by
        obtain ⟨j, hj, hu'⟩ := List.mem_iff_getElem.1 hu
        have hj' : j < (part.map AC.p).length := by rw [h9.1]; exact hj
        exact (h9.2 j (part.map AC.p)[j] u (by simp [hj']) (by rw [← hu']; exact List.getElem?_eq_getElem _)).one
      have hmul : i * es + es ≤ arr.size := by
        simp only at h7 hrl2
        rw [h7]
        calc i * es + es = (i + 1) * es := by rw [Nat.add_mul, Nat.one_mul]
          _ ≤ c' * es := Nat.mul_le_mul_right _ (by omega)
      have hsz : arr.toList.length = arr.size := Array.length_toList
      have h6' : w.heap[b]? = some (.cells arr.toList.toArray ty (0, 0)) := by simpa using h6
      have hr := run_storeVar hT h6' (off := i * es + d) (v := a.eval y) (by rw [hsz]; omega) (by simpa using hvl) hone
      have hle : Wd.le ⟨w, G.S⟩ ⟨w.setRow b (arr.toList.take (i * es + d) ++ (a.eval y).cells.toList ++ arr.toList.drop (i * es + d + sz)).toArray, G.S⟩ := fun k hk =>
        ⟨hk, setRow_other w b k _ fun e => h.stab ob b (by rw [h5]; simp) (e ▸ hk)⟩
      have htl : (arr.toList.take (i * es + d)).length = i * es + d := by rw [List.length_take]; omega
      have hget : ∀ (t : Nat) v, arr[t]? = some v → (t < i * es + d ∨ i * es + d + sz ≤ t) → (arr.toList.take (i * es + d) ++ (a.eval y).cells.toList ++ arr.toList.drop (i * es + d + sz))[t]? = some v := fun t v hv ht => by
        rw [List.append_assoc]
        rcases ht with ht | ht
        · rw [List.getElem?_append_left (by omega), List.getElem?_take, if_pos ht]; simpa using hv
        · rw [List.getElem?_append_right (by omega), htl, List.getElem?_append_right (by omega), hvl, List.getElem?_drop]
          rw [show i * es + d + sz + (t - (i * es + d) - sz) = t by omega]; simpa using hv
      refine ⟨.skip, undef, w.setRow b (arr.toList.take (i * es + d) ++ (a.eval y).cells.toList ++ arr.toList.drop (i * es + d + sz)).toArray, ?_, .inr ⟨rfl, rfl⟩, setRow_frame.1, setRow_frame.2.1, setRow_frame.2.2.1, setRow_frame.2.2.2,
        fun k _ hk => setRow_other w b k _ fun e => hk (by rw [h5, e]; simp), ⟨hes, hmax, by simpa using hrl2, .inr ⟨b, _, rfl, h5, setRow_heap w b _ _ ty _ h6', ?_, ?_⟩⟩, trivial⟩
      · simp only [execOp, ho, h2, Instr.storeAt, Instr.sureAddr, Sem.run_bind, Sem.run_pure, Result.andThen_ok, hr]
      · simp only [List.size_toArray, List.length_append, List.length_take, List.length_drop, Array.length_toList, hvl]
        rw [Nat.min_eq_left (by omega)]
        simp only at h7; omega
      · intro q r hq
        by_cases hqi : q = i
        · subst hqi
          rw [List.getElem?_set_self hil] at hq
          obtain rfl := Option.some.inj hq
          obtain ⟨e1, e2⟩ := h8 q old hi
          have hol : (old.take d).length = d := by rw [List.length_take]; omega
          refine ⟨by rw [List.length_append, List.length_append, hol, hrl, List.length_drop]; omega, fun j p hp => ?_⟩
          simp only [Nat.zero_add, List.getElem?_toArray]
          by_cases hj1 : j < d
          · rw [List.append_assoc, List.getElem?_append_left (by omega), List.getElem?_take, if_pos hj1] at hp
            obtain ⟨v, hv, hpv⟩ := e2 j p hp
            rw [Nat.zero_add] at hv
            exact ⟨v, hget _ v hv (.inl (by omega)), p.mono hle hpv⟩
          · by_cases hj2 : j < d + sz
            · rw [List.append_assoc, List.getElem?_append_right (by omega), hol, List.getElem?_append_left (by omega)] at hp
              obtain ⟨v, hv, hpv⟩ := h9.get (i := j - d) (a := .p p) (by simp [hp])
              refine ⟨v, ?_, p.mono hle hpv⟩
              rw [List.append_assoc, List.getElem?_append_right (by omega), htl, List.getElem?_append_left (by omega), ← hv]
              congr 1; omega
            · rw [List.append_assoc, List.getElem?_append_right (by omega), hol, List.getElem?_append_right (by omega), hrl, List.getElem?_drop] at hp
              rw [show d + sz + (j - d - sz) = j by omega] at hp
              obtain ⟨v, hv, hpv⟩ := e2 j p hp
              rw [Nat.zero_add] at hv
              exact ⟨v, hget _ v hv (.inr (by omega)), p.mono hle hpv⟩
        · rw [List.getElem?_set_ne (fun e => hqi e.symm)] at hq
          obtain ⟨e1, e2⟩ := h8 q r hq
          refine ⟨e1, fun j p hp => ?_⟩
          obtain ⟨v, hv, hpv⟩ := e2 j p hp
          have hj : j < es := by rw [← e1]; exact (List.getElem?_eq_some_iff.1 hp).1
          simp only [Nat.zero_add, List.getElem?_toArray]
          rw [Nat.zero_add] at hv
          refine ⟨v, hget _ v hv ?_, p.mono hle hpv⟩
          rcases Nat.lt_or_ge q i with hlt | hge
          · have : q * es + es ≤ i * es := by
              calc q * es + es = (q + 1) * es := by rw [Nat.add_mul, Nat.one_mul]
                _ ≤ i * es := Nat.mul_le_mul_right _ hlt
            left; omega
          · have : i * es + es ≤ q * es := by
              calc i * es + es = (i + 1) * es := by rw [Nat.add_mul, Nat.one_mul]
                _ ≤ q * es := Nat.mul_le_mul_right _ (by omega)
            right; omega
end Go.Aw
