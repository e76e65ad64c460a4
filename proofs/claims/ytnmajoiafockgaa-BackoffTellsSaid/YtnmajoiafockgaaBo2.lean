/- backoffs: gaps, one behind the other -/
import Derived.Test.YtnmajoiafockgaaBo1
namespace Go.Proofs.Ytnmajoiafockgaa.Bo
open Go Go.RowKit Go.Aw Go.Aw.Bo
set_option linter.unusedVariables false
set_option linter.unusedSimpArgs false
set_option maxRecDepth 8000
set_option maxHeartbeats 4000000
theorem Agr.put' {σ τ : St} {W M : List Nat} {o : Nat} {m : Nat × Option MO} (h : Agr σ W (o :: M) τ) : Agr (σ.put o m) W M (τ.put o m) := ⟨h.env, fun t ht => by
  by_cases e : t = o
  · subst e; simp [St.put]
  · have hb : Nat.beq t o = false := Bool.eq_false_iff.2 (fun k => e (Nat.eq_of_beq_eq_true k))
    have := h.mem t (by simp only [memb, hb, ht, Bool.or_self])
    simp [St.put, e, this]⟩
theorem lop_mfo_l {C : Ctx} {o : Oper} {σ : St} {f : FuncId} {x0 xo : Operand} {o0 g0 n0 ty0 oo g : Nat} {cs0 : List AC} {ps0 : List PVal} (ho : o.op = .makeFunc (.func f) #[] #[x0, xo]) (h0 : σ.look x0 = .o (.ptr o0 g0 0)) (hm0 : σ.mem o0 = (n0, some (.box ty0 cs0))) (hn0 : n0 = g0 + 1) (hc0 : cs0 = ps0.map .p)
    (h1 : σ.look xo = .o (.ptr oo g 0)) (hd : dOk C o.dst = true) : LOp C o σ ⟨.o (.fn f oo g [.bx ps0 0] []), [(o0, (g0 + 1, some (.abs (fbx ps0))))]⟩ (fun x => [o0].any (· == x)) := by
  subst hn0 hc0
  have := lop_mfo (C := C) (o := o) (σ := σ) (c1 := [x0]) (c2 := []) (l1 := [⟨o0, g0, ty0, ps0⟩]) (l2 := []) ho rfl h1 (.cons h0 .nil) .nil (by simpa using hm0) (by simp) hd
  simpa [Cap.upd] using this
theorem lopC {C : Ctx} {o : Oper} {σ : St} {e : Eff} {ro : Nat → Bool} (h : LOp C o σ e ro := by
    first
      | (apply lop_mfo_l; (focus rfl); (focus rfl); (focus rfl); (focus rfl); (focus exact pm1); (focus rfl); (focus rfl))
      | exact lopB
      | fail) : LOp C o σ e ro := h
section steps
variable {C : Ctx} {ops : Array Oper} {o : Oper} {rest : List Oper} {K : St → Prop} {σ : St} {e : Eff} {ro : Nat → Bool} {W : List (Nat × Nat)} {i : Nat}
theorem rnC {d : Nat} (hk : RunN C ops rest K (e.app (some d) σ)) (hg : Guard ops σ o true := by first | exact gd_n rfl rfl | exact gd_t rfl rfl rfl rfl | exact gd_t rfl rfl rfl (by assumption)) (hd : o.dst = some d := by rfl) (h : LOp C o σ e ro := by exact lopC) : RunN C ops (o :: rest) K σ := rn_any hg hd h hk
theorem rkC {d : Nat} (hk : RunK C ops W (i + 1) rest K (e.app (some d) σ)) (hg : Guard ops σ o true := by first | exact gd_n rfl rfl | exact gd_t rfl rfl rfl rfl | exact gd_t rfl rfl rfl (by assumption)) (hd' : o.dst = some d := by rfl) (hd : dOk C o.dst = true := by rfl) (h : LOp C o σ e ro := by exact lopC)
    (hro : ∀ x, ro x = true → okObj ops W i x = true := by first | exact fun _ => ro_none | exact ro_one rfl | exact ro_one (by kernel_rfl) | exact ro_kIn (by decide)) (hob : ∀ p ∈ e.obj, (i, p.1) ∈ W := by first | exact ob_none | exact ob_one (by decide) | decide) : RunK C ops W i (o :: rest) K σ := rk_wr hg hd' hd h hro hob hk
end steps
abbrev ints (l : List Int) (ex : Bool) : AV := .p (.sl 1 (l.map fun n => [PVal.i n]) ex)
abbrev boxS (b c m t : Int) : MO := .box 23 (stL b c m t)
theorem gaps_o (b c m t n : Int) : OCall Try.prog 20 [stV b c m t, .p (.i n)] (fun _ => (0, none)) (.o (.fn 22 2 0 [.bx [.i n] 0] [])) (memL [(2, (1, some (boxS b c m t)))]) := by
  refine ocall_ofF 2 Try.func20 rfl (fun w0 F S0 M0 => ?_)
  repeat' (first
      | refine rnC ?_
      | refine rnSB ?_
      | refine rnG ?_
      | refine rnU ?_
      | ((fail_if_success (refine rnKn ?_)); refine rnP ?_ ?_ <;> (intro hq; try (have hq' := hq; simp only [hqs] at hq')))
      | refine rkC ?_
      | refine rkSB ?_
      | refine rkF ?_
      | refine rkU ?_
      | ((fail_if_success (refine rkKn ?_)); refine rkP ?_ ?_ <;> (intro hq; try (have hq' := hq; simp only [hqs] at hq')))
      | refine stp ?_
      | refine ifT ?_
      | refine ifF ?_
      | (refine ifQ ?_ ?_ <;> (try (intro hn)))
      | (refine ifB ?_ ?_ <;> (intro hq; try (have hq' := hq; simp only [hqs] at hq'))))
  exact RetO.mk (ot1 rfl rfl (.one (.kfn rfl)) rfl) ⟨finM_box rfl finL_p, trivial⟩
instance {b c m t n : Int} {d k : Nat} : OC Try.prog 20 [stV b c m t, .p (.i n)] [] [(d, k)] True (.o (.fn 22 d k [.bx [.i n] 0] [])) [(d, (k + 1, some (boxS b c m t)))] := ⟨fun _ => (gaps_o b c m t n).fresh1 d k⟩
theorem iter_w (b c m t : Int) (n k : Nat) (h : rightB b c m t = true) (hn : n ≤ 1000) : ICallO Try.prog 22 [.bx [.i n] 0] [] k 23 [.i b, .i c, .i m, .i t] ((gapsL b c t n).map fun x => .p (.i x)) := by
  refine icallO_of Try.func22 rfl (fun w0 F S0 M0 I yv hone hY => ?_)
  have hr := right_of h
  simp only [List.length_map, gapsL_len] at hY ⊢
  repeat' (first
      | refine rnB ?_
      | refine rnSB ?_
      | refine rnG ?_
      | refine rnU ?_
      | ((fail_if_success (refine rnKn ?_)); refine rnP ?_ ?_ <;> (intro hq; try (have hq' := hq; simp only [hqs] at hq')))
      | refine rkB ?_
      | refine rkSB ?_
      | refine rkF ?_
      | refine rkU ?_
      | ((fail_if_success (refine rkKn ?_)); refine rkP ?_ ?_ <;> (intro hq; try (have hq' := hq; simp only [hqs] at hq')))
      | refine stp ?_
      | refine aws_draws [] mixed (by kernel_rfl) ?_
      | refine ifT ?_
      | refine ifF ?_
      | (refine ifQ ?_ ?_ <;> (try (intro hn)))
      | (refine ifB ?_ ?_ <;> (intro hq; try (have hq' := hq; simp only [hqs] at hq'))))
  refine aws_loopS [5, 6, 7, 8, 9, 10, 11, 12, 13, 14] [1000, 1001] (fun (i : Nat) => [(5, .p (.i i))]) (fun i => [(1000, (1, some (.abs (I i)))), (1001, (k + 1, some (boxS b c m (trF t i))))])
    (fun i => i ≤ n) (fun i => n - i) 0 (Nat.zero_le _) (by exact knA) (by rw [trF_0 (by omega)]; exact knA) ?_
  rintro i β γ hi
  have hti := trF_in (t := t) (by omega) i
  have hri : rightB b c m (trF t i) = true := right_mk (by omega)
  by_cases hin : i < n
  · have hd : decide ((i : Int) < (n : Int)) = true := decide_eq_true (by omega)
    have hy := hY i (.p (.i (gapF b c (trF t i).toNat))) (by rw [List.getElem?_map]; have := gapsL_get (b := b) (c := c) (t := t) hin; rw [List.getD_eq_getElem?_getD, List.getElem?_eq_getElem (by rw [gapsL_len]; exact hin)] at this; rw [List.getElem?_eq_getElem (by rw [gapsL_len]; exact hin)]; simp only [Option.map_some]; rw [← this]; rfl)
    have hs := trF_succ (t := t) (by omega) i
    repeat' (first
        | refine rnB ?_
        | refine rnSB ?_
        | refine rnG ?_
        | refine rnU ?_
        | ((fail_if_success (refine rnKn ?_)); refine rnP ?_ ?_ <;> (intro hq; try (have hq' := hq; simp only [hqs] at hq')))
        | refine rkB ?_
        | refine rkSB ?_
        | refine rkF ?_
        | refine rkU ?_
        | ((fail_if_success (refine rkKn ?_)); refine rkP ?_ ?_ <;> (intro hq; try (have hq' := hq; simp only [hqs] at hq')))
        | refine stp ?_
        | refine aws_draws [] mixed (by kernel_rfl) ?_
        | refine ifT ?_
        | refine ifF ?_
        | (refine ifQ ?_ ?_ <;> (try (intro hn)))
        | (refine ifB ?_ ?_ <;> (intro hq; try (have hq' := hq; simp only [hqs] at hq'))))
    refine ⟨i + 1, _, by omega, by omega, .refl, ?_⟩
    rw [hs]
    exact frA
  · have hd : decide ((i : Int) < (n : Int)) = false := decide_eq_false (by omega)
    obtain rfl : i = n := by omega
    repeat' (first
        | refine rnB ?_
        | refine rnSB ?_
        | refine rnG ?_
        | refine rnU ?_
        | ((fail_if_success (refine rnKn ?_)); refine rnP ?_ ?_ <;> (intro hq; try (have hq' := hq; simp only [hqs] at hq')))
        | refine rkB ?_
        | refine rkSB ?_
        | refine rkF ?_
        | refine rkU ?_
        | ((fail_if_success (refine rkKn ?_)); refine rkP ?_ ?_ <;> (intro hq; try (have hq' := hq; simp only [hqs] at hq')))
        | refine stp ?_
        | refine aws_draws [] mixed (by kernel_rfl) ?_
        | refine ifT ?_
        | refine ifF ?_
        | (refine ifQ ?_ ?_ <;> (try (intro hn)))
        | (refine ifB ?_ ?_ <;> (intro hq; try (have hq' := hq; simp only [hqs] at hq'))))
    show RetO _ _ _ _ _ .normal _
    exact RetO.mk (res0 rfl rfl) ⟨.abs, .drop, trivial⟩
theorem append_o (b c m t : Int) (n k : Nat) (h : rightB b c m t = true) (hn : n ≤ 1000) : OCall Try.prog 21 [.p (.v (.slice none 0 0)), .o (.fn 22 1000 k [.bx [.i n] 0] [])] (memL [(1000, (k + 1, some (boxS b c m t)))]) (ints (gapsL b c t n) false) (memL [(1000, (k + 1, none))]) := by
  refine ocall_of1 Try.func21 rfl (fun w0 F S0 M0 => ?_)
  refine aws_says (says_nil (t := 0) (o := 900) (ty := 3) (es := 1) rfl rfl (by decide)) ?_
  repeat' (first
      | refine rnB ?_
      | refine rnSB ?_
      | refine rnG ?_
      | refine rnU ?_
      | ((fail_if_success (refine rnKn ?_)); refine rnP ?_ ?_ <;> (intro hq; try (have hq' := hq; simp only [hqs] at hq')))
      | refine rkB ?_
      | refine rkSB ?_
      | refine rkF ?_
      | refine rkU ?_
      | ((fail_if_success (refine rkKn ?_)); refine rkP ?_ ?_ <;> (intro hq; try (have hq' := hq; simp only [hqs] at hq')))
      | refine stp ?_
      | refine aws_draws [] mixed (by kernel_rfl) ?_
      | refine ifT ?_
      | refine ifF ?_
      | (refine ifQ ?_ ?_ <;> (try (intro hn)))
      | (refine ifB ?_ ?_ <;> (intro hq; try (have hq' := hq; simp only [hqs] at hq'))))
  refine aws_block ?_
  refine aws_rangeO (ι := Nat × List Int) (W := [5, 7, 8, 9, 10, 11]) (M := [2, 900]) (m := fun x => [(2, (1, some (.box 33 [.osl 900 x.1 1 0 x.2.length]))), (900, (x.1 + 1, some (.buf 3 1 (x.2.map fun v => [PVal.i v]))))])
    (Pk := fun j x => x.2 = gapsL b c t j ∧ j ≤ n) (i₀ := (0, [])) (ps := [.i b, .i c, .i m, .i t]) rfl rfl inferInstance (iter_w b c m t n k h hn) rfl ?_ rfl rfl rfl (by decide) (fun i => rfl) rfl ⟨rfl, Nat.zero_le _⟩ (by exact knA) ?_ ?_
  · intro x hx
    simp only [List.mem_map] at hx
    obtain ⟨i, _, rfl⟩ := hx
    exact inferInstance
  · rintro j x hjx ⟨g, l⟩ γ w0 F S0 M0 lp R R' ⟨hl, hj⟩
    simp only at hl
    have hjn : j < n := by
      by_cases hlt : j < n
      · exact hlt
      · rw [List.getElem?_map, List.getElem?_eq_none (by rw [gapsL_len]; omega)] at hjx; cases hjx
    obtain rfl : x = .p (.i (gapF b c (trF t j).toNat)) := by
      have := gapsL_get (b := b) (c := c) (t := t) hjn
      rw [List.getD_eq_getElem?_getD, List.getElem?_eq_getElem (by rw [gapsL_len]; exact hjn)] at this
      rw [List.getElem?_map, List.getElem?_eq_getElem (by rw [gapsL_len]; exact hjn)] at hjx
      have e := Option.some.inj hjx
      rw [← e, ← this]; rfl
    have hll : l.length ≤ 1000 := by rw [hl, gapsL_len]; omega
    dsimp only
    repeat' (first
        | refine rnB ?_
        | refine rnSB ?_
        | refine rnG ?_
        | refine rnU ?_
        | ((fail_if_success (refine rnKn ?_)); refine rnP ?_ ?_ <;> (intro hq; try (have hq' := hq; simp only [hqs] at hq')))
        | refine rkB ?_
        | refine rkSB ?_
        | refine rkF ?_
        | refine rkU ?_
        | ((fail_if_success (refine rkKn ?_)); refine rkP ?_ ?_ <;> (intro hq; try (have hq' := hq; simp only [hqs] at hq')))
        | refine stp ?_
        | refine aws_draws [] mixed (by kernel_rfl) ?_
        | refine ifT ?_
        | refine ifF ?_
        | (refine ifQ ?_ ?_ <;> (try (intro hn)))
        | (refine ifB ?_ ?_ <;> (intro hq; try (have hq' := hq; simp only [hqs] at hq'))))
    refine ⟨rfl, rfl, ?_⟩
    repeat' (first
        | refine rnB ?_
        | refine rnSB ?_
        | refine rnG ?_
        | refine rnU ?_
        | ((fail_if_success (refine rnKn ?_)); refine rnP ?_ ?_ <;> (intro hq; try (have hq' := hq; simp only [hqs] at hq')))
        | refine rkB ?_
        | refine rkSB ?_
        | refine rkF ?_
        | refine rkU ?_
        | ((fail_if_success (refine rkKn ?_)); refine rkP ?_ ?_ <;> (intro hq; try (have hq' := hq; simp only [hqs] at hq')))
        | refine stp ?_
        | refine aws_draws [] mixed (by kernel_rfl) ?_
        | refine ifT ?_
        | refine ifF ?_
        | (refine ifQ ?_ ?_ <;> (try (intro hn)))
        | (refine ifB ?_ ?_ <;> (intro hq; try (have hq' := hq; simp only [hqs] at hq'))))
    refine ⟨rfl, (g + 1, l ++ [gapF b c (trF t j).toNat]), _, ⟨by dsimp only; rw [hl, gapsL_succ], by omega⟩, .refl, Fr'.mk ?_ (by exact knA) (by exact knA)⟩
    repeat' (first | exact Agr.refl | refine Agr.appg rfl rfl ?_ | refine Agr.appgn rfl ?_ | refine Agr.set rfl ?_ | refine Agr.put rfl ?_ | refine Agr.put' ?_ | refine Agr.fr ?_ (memb_sub rfl) (memb_sub rfl) rfl rfl)
  · rintro ⟨g, l⟩ γ ⟨hl, hj⟩
    simp only [List.length_map, gapsL_len] at hl
    dsimp only
    subst hl
    repeat' (first
        | refine rnB ?_
        | refine rnSB ?_
        | refine rnG ?_
        | refine rnU ?_
        | ((fail_if_success (refine rnKn ?_)); refine rnP ?_ ?_ <;> (intro hq; try (have hq' := hq; simp only [hqs] at hq')))
        | refine rkB ?_
        | refine rkSB ?_
        | refine rkF ?_
        | refine rkU ?_
        | ((fail_if_success (refine rkKn ?_)); refine rkP ?_ ?_ <;> (intro hq; try (have hq' := hq; simp only [hqs] at hq')))
        | refine stp ?_
        | refine aws_draws [] mixed (by kernel_rfl) ?_
        | refine ifT ?_
        | refine ifF ?_
        | (refine ifQ ?_ ?_ <;> (try (intro hn)))
        | (refine ifB ?_ ?_ <;> (intro hq; try (have hq' := hq; simp only [hqs] at hq'))))
    exact RetO.mk (ot1 rfl rfl (.one (finC_map rfl rfl rfl rfl)) rfl) ⟨.drop, trivial⟩
instance {b c m t : Int} {n k d : Nat} : OC Try.prog 21 [.p (.v (.slice none 0 0)), .o (.fn 22 d k [.bx [.i n] 0] [])] [(d, (k + 1, some (boxS b c m t)))] [] (rightB b c m t = true ∧ n ≤ 1000) (ints (gapsL b c t n) false) [(d, (k + 1, none))] := ⟨fun h => (append_o b c m t n k h.1 h.2).one d⟩
end Go.Proofs.Ytnmajoiafockgaa.Bo
