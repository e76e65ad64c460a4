/- the model: which lists are whole, and their carts; joins, the laws: fixed calls; the model: maundlaw09.Great, Subset, alive; the model, the laws: ModelRefines -/
import Derived.Test.YtebjmleheiefdaaGreatG5
import Derived.Test.YtebjmleheiefdaaGreatCj3
import Derived.Test.YtebjmleheiefdaaGreatCj4
import Derived.Test.YtebjmleheiefdaaGreatKj
import Derived.Test.YtebjmleheiefdaaGreatG2
namespace Go.Proofs.YtebjmleheiefdaaGreat.Ca
open Go Go.RowKit Go.Aw Go.Aw.Cart Go.Aw.Ord Go.Sort
set_option linter.unusedVariables false
set_option linter.unusedSimpArgs false
set_option maxRecDepth 8000
set_option maxHeartbeats 4000000
namespace M6
theorem lopC {C : Ctx} {o : Oper} {σ : St} {e : Eff} {ro : Nat → Bool} (h : LOp C o σ e ro := by
    first | (apply lop_callv1; (focus rfl); (focus rfl); (focus assumption); (focus first | exact lk_o rfl | exact lk_a rfl); (focus exact inferInstance); (focus exact inferInstance); (focus first | exact True.intro | assumption); (focus rfl)) | exact M4.lopC | fail) : LOp C o σ e ro := h
section steps
variable {C : Ctx} {ops : Array Oper} {o : Oper} {rest : List Oper} {K : St → Prop} {σ : St} {e : Eff} {ro : Nat → Bool} {W : List (Nat × Nat)} {i : Nat}
theorem rnC {d : Nat} (hk : RunN C ops rest K (e.app (some d) σ)) (hg : Guard ops σ o true := by first | exact gd_n rfl rfl | exact gd_t rfl rfl rfl rfl | exact gd_t rfl rfl rfl (by assumption)) (hd : o.dst = some d := by rfl) (h : LOp C o σ e ro := by exact lopC) : RunN C ops (o :: rest) K σ := rn_any hg hd h hk
theorem rkC {d : Nat} (hk : RunK C ops W (i + 1) rest K (e.app (some d) σ)) (hg : Guard ops σ o true := by first | exact gd_n rfl rfl | exact gd_t rfl rfl rfl rfl | exact gd_t rfl rfl rfl (by assumption)) (hd' : o.dst = some d := by rfl) (hd : dOk C o.dst = true := by rfl) (h : LOp C o σ e ro := by exact lopC)
    (hro : ∀ x, ro x = true → okObj ops W i x = true := by first | exact fun _ => ro_none | exact ro_one rfl | exact ro_k1 rfl | exact ro_one (by kernel_rfl) | exact ro_k1 (by kernel_rfl) | exact ro_kIn (by decide)) (hob : ∀ p ∈ e.obj, (i, p.1) ∈ W := by first | exact ob_none | exact ob_one (by decide) | decide) : RunK C ops W i (o :: rest) K σ := rk_wr hg hd' hd h hro hob hk
end steps
end M6
open M6
theorem indexFuncXm_w (f : FuncId) (caps : List PVal) (hf : FnT Tryz.prog f) (p : Evt → Bool) (l : List Evt) (ex : Bool) (h : l.length ≤ 1000000000) (hp : ∀ e ∈ l, PCall Tryz.prog f ([xV e] ++ caps.map .p) (.p (.b (p e)))) : PCall Tryz.prog 137 [.p (.sl 6 (l.map xR) ex), .p (.fnv f caps)] (.p (.i (idxX p l 0 l.length))) := by
  refine pcall_of Tryz.func137 rfl (fun w0 F S0 M0 => ?_)
  haveI : ∀ e, PC Tryz.prog f ([xV e] ++ caps.map .p) (e ∈ l) (.p (.b (p e))) := fun e => ⟨fun k => hp e k⟩
  obtain ⟨A, hA⟩ : ∃ A, A = idxX p l 0 l.length := ⟨_, rfl⟩
  rw [← hA]
  repeat' (first | refine rnC ?_ | refine rnSB ?_ | refine rnG ?_ | refine rnU ?_ | ((fail_if_success (refine rnKn ?_)); refine rnP ?_ ?_ <;> (intro hq; try (have hq' := hq; simp only [hqs] at hq'))) | refine rkC ?_ | refine rkSB ?_ | refine rkF ?_ | refine rkU ?_ | ((fail_if_success (refine rkKn ?_)); refine rkP ?_ ?_ <;> (intro hq; try (have hq' := hq; simp only [hqs] at hq'))) | refine stp ?_ | refine ifT ?_ | refine ifF ?_ | (refine ifQ ?_ ?_ <;> (try (intro hn))) | (refine ifB ?_ ?_ <;> (intro hq; try (have hq' := hq; simp only [hqs] at hq'))))
  refine aws_loopS [4, 5, 8, 9, 10, 11, 12, 13, 14, 15, 16, 17, 18] [] (fun (i : Nat) => [(8, .p (.i i))]) (fun _ => []) (fun i => i ≤ l.length ∧ A = idxX p l i (l.length - i)) (fun i => l.length - i) 0 ⟨Nat.zero_le _, hA⟩ (by exact knA) (by exact knA) ?_
  rintro i β γ ⟨hi, hx⟩
  by_cases hil : i < l.length
  · have hlt : decide ((i : Int) < l.length) = true := decide_eq_true (by omega)
    have hmem : l.getD (i : Int).toNat default ∈ l := by rw [Int.toNat_natCast, getD_at hil]; exact List.getElem_mem _
    rw [show l.length - i = (l.length - (i + 1)) + 1 by omega, idxX] at hx
    cases hv : p (l.getD (i : Int).toNat default) with
    | true =>
      have hv' := hv
      rw [Int.toNat_natCast] at hv'
      rw [if_pos hv'] at hx
      rw [hx]
      as_aux_lemma =>
        repeat' (first | refine rnC ?_ | refine rnSB ?_ | refine rnG ?_ | refine rnU ?_ | ((fail_if_success (refine rnKn ?_)); refine rnP ?_ ?_ <;> (intro hq; try (have hq' := hq; simp only [hqs] at hq'))) | refine rkC ?_ | refine rkSB ?_ | refine rkF ?_ | refine rkU ?_ | ((fail_if_success (refine rkKn ?_)); refine rkP ?_ ?_ <;> (intro hq; try (have hq' := hq; simp only [hqs] at hq'))) | refine stp ?_ | refine ifT ?_ | refine ifF ?_ | (refine ifQ ?_ ?_ <;> (try (intro hn))) | (refine ifB ?_ ?_ <;> (intro hq; try (have hq' := hq; simp only [hqs] at hq'))))
        exact rt1 rfl rfl finS_p rfl
    | false =>
      have hv' := hv
      rw [Int.toNat_natCast] at hv'
      rw [if_neg (by rw [hv']; simp)] at hx
      as_aux_lemma =>
        repeat' (first | refine rnC ?_ | refine rnSB ?_ | refine rnG ?_ | refine rnU ?_ | ((fail_if_success (refine rnKn ?_)); refine rnP ?_ ?_ <;> (intro hq; try (have hq' := hq; simp only [hqs] at hq'))) | refine rkC ?_ | refine rkSB ?_ | refine rkF ?_ | refine rkU ?_ | ((fail_if_success (refine rkKn ?_)); refine rkP ?_ ?_ <;> (intro hq; try (have hq' := hq; simp only [hqs] at hq'))) | refine stp ?_ | refine ifT ?_ | refine ifF ?_ | (refine ifQ ?_ ?_ <;> (try (intro hn))) | (refine ifB ?_ ?_ <;> (intro hq; try (have hq' := hq; simp only [hqs] at hq'))))
        exact ⟨i + 1, _, by omega, ⟨by omega, hx⟩, .refl, by exact frA⟩
  · have hlt : decide ((i : Int) < l.length) = false := decide_eq_false (by omega)
    rw [show l.length - i = 0 by omega, idxX] at hx
    rw [hx]
    as_aux_lemma =>
      repeat' (first | refine rnC ?_ | refine rnSB ?_ | refine rnG ?_ | refine rnU ?_ | ((fail_if_success (refine rnKn ?_)); refine rnP ?_ ?_ <;> (intro hq; try (have hq' := hq; simp only [hqs] at hq'))) | refine rkC ?_ | refine rkSB ?_ | refine rkF ?_ | refine rkU ?_ | ((fail_if_success (refine rkKn ?_)); refine rkP ?_ ?_ <;> (intro hq; try (have hq' := hq; simp only [hqs] at hq'))) | refine stp ?_ | refine ifT ?_ | refine ifF ?_ | (refine ifQ ?_ ?_ <;> (try (intro hn))) | (refine ifB ?_ ?_ <;> (intro hq; try (have hq' := hq; simp only [hqs] at hq'))))
      exact rt1 rfl rfl finS_p rfl
theorem containsFuncXm_w (f : FuncId) (caps : List PVal) (hf : FnT Tryz.prog f) (p : Evt → Bool) (l : List Evt) (ex : Bool) (h : l.length ≤ 1000000000) (hp : ∀ e ∈ l, PCall Tryz.prog f ([xV e] ++ caps.map .p) (.p (.b (p e)))) : PCall Tryz.prog 100 [.p (.sl 6 (l.map xR) ex), .p (.fnv f caps)] (.p (.b (l.any p))) := by
  refine pcall_of Tryz.func100 rfl (fun w0 F S0 M0 => ?_)
  haveI : PC Tryz.prog 137 [.p (.sl 6 (l.map xR) ex), .p (.fnv f caps)] True (.p (.i (idxX p l 0 l.length))) := ⟨fun _ => indexFuncXm_w f caps hf p l ex h hp⟩
  as_aux_lemma =>
    repeat' (first | refine rnC ?_ | refine rnSB ?_ | refine rnG ?_ | refine rnU ?_ | ((fail_if_success (refine rnKn ?_)); refine rnP ?_ ?_ <;> (intro hq; try (have hq' := hq; simp only [hqs] at hq'))) | refine rkC ?_ | refine rkSB ?_ | refine rkF ?_ | refine rkU ?_ | ((fail_if_success (refine rkKn ?_)); refine rkP ?_ ?_ <;> (intro hq; try (have hq' := hq; simp only [hqs] at hq'))) | refine stp ?_ | refine ifT ?_ | refine ifF ?_ | (refine ifQ ?_ ?_ <;> (try (intro hn))) | (refine ifB ?_ ?_ <;> (intro hq; try (have hq' := hq; simp only [hqs] at hq'))))
    refine rt1 rfl rfl finS_p (rb ?_)
    have := idxX_any (p := p) (l := l) l.length 0 (by omega)
    rw [List.drop_zero] at this
    exact this.symm
theorem Ent1.fnc {f : FuncId} : Ent1 (.p (.v (.func (.func f) #[] #[]))) (.p (.fnv f [])) := by
  rintro μ X v ⟨rfl, _⟩
  exact ⟨[], rfl, .nil⟩
theorem whole1_w (x : Evt) (h : (Evt.off x).length ≤ 1000000000) : PCall Tryz.prog 111 [xV x] (.p (.b (!evR x))) := by
  refine pcall_of Tryz.func111 rfl (fun w0 F S0 M0 => ?_)
  have hl : (x.2.2.2.2).length ≤ 1000000000 := h
  as_aux_lemma =>
    repeat' (first | refine rnC ?_ | refine rnSB ?_ | refine rnG ?_ | refine rnU ?_ | ((fail_if_success (refine rnKn ?_)); refine rnP ?_ ?_ <;> (intro hq; try (have hq' := hq; simp only [hqs] at hq'))) | refine rkC ?_ | refine rkSB ?_ | refine rkF ?_ | refine rkU ?_ | ((fail_if_success (refine rkKn ?_)); refine rkP ?_ ?_ <;> (intro hq; try (have hq' := hq; simp only [hqs] at hq'))) | refine stp ?_ | refine aws_draws [] mixed (by kernel_rfl) ?_ | refine ifT ?_ | refine ifF ?_ | (refine ifQ ?_ ?_ <;> (try (intro hn))) | (refine ifB ?_ ?_ <;> (intro hq; try (have hq' := hq; simp only [hqs] at hq'))))
    exact rt1 rfl rfl finS_p rfl
theorem whole2_w (D : List Dot) (d : Dot) (h : D.length ≤ 1000000000) : PCall Tryz.prog 115 [dV d, .p (.bx [.sl 2 (D.map dR) false] 0)] (.p (.b (!decide (d ∈ D)))) := by
  refine pcall_of Tryz.func115 rfl (fun w0 F S0 M0 => ?_)
  as_aux_lemma =>
    repeat' (first | refine rnC ?_ | refine rnSB ?_ | refine rnG ?_ | refine rnU ?_ | ((fail_if_success (refine rnKn ?_)); refine rnP ?_ ?_ <;> (intro hq; try (have hq' := hq; simp only [hqs] at hq'))) | refine rkC ?_ | refine rkSB ?_ | refine rkF ?_ | refine rkU ?_ | ((fail_if_success (refine rkKn ?_)); refine rkP ?_ ?_ <;> (intro hq; try (have hq' := hq; simp only [hqs] at hq'))) | refine stp ?_ | refine aws_draws [] mixed (by kernel_rfl) ?_ | refine ifT ?_ | refine ifF ?_ | (refine ifQ ?_ ?_ <;> (try (intro hn))) | (refine ifB ?_ ?_ <;> (intro hq; try (have hq' := hq; simp only [hqs] at hq'))))
    exact rt1 rfl rfl finS_p rfl
theorem mDots_len (l : List Evt) : (mDots l).length ≤ 2000 := by
  unfold mDots; rw [dotsOf_is, List.length_take]; omega
theorem mDots_sub {l : List Evt} {d : Dot} (h : d ∈ mDots l) : ∃ x ∈ l, Evt.dot x = d := by
  unfold mDots at h
  rw [dotsOf_is] at h
  obtain ⟨x, hx, e⟩ := List.mem_map.1 (setF_mem.1 (List.mem_of_mem_take h)).1
  exact ⟨x, (List.mem_filter.1 hx).1, e⟩
theorem mOff_len {l : List Evt} (h : l.length ≤ 1000) (ho : ∀ x ∈ l, (Evt.off x).length ≤ 100000) : (mOff l).length ≤ 1000000000 := by
  have h1 := off_le ho
  have h2 : l.length * 100000 ≤ 1000 * 100000 := Nat.mul_le_mul_right _ h
  omega
theorem mWhole_w (l : List Evt) (ex : Bool) (h : l.length ≤ 1000) (ho : ∀ x ∈ l, (Evt.off x).length ≤ 100000) (hb : ∀ x ∈ l, (Evt.dot x).2 < 18446744073709551616) : PCall Tryz.prog 69 [.p (.sl 6 (l.map xR) ex)] (.p (.b (mWhole l))) := by
  refine pcall_of Tryz.func69 rfl (fun w0 F S0 M0 => ?_)
  have h6 : l.length ≤ 1000000 := by omega
  have ho6 : ∀ x ∈ l, (Evt.off x).length ≤ 1000000 := fun x hx => Nat.le_trans (ho x hx) (by decide)
  have c1 := containsFuncXm_w 111 [] inferInstance (fun x => !evR x) l ex (by omega) (fun x hx => whole1_w x (Nat.le_trans (ho x hx) (by decide)))
  haveI : PC Tryz.prog 100 [.p (.sl 6 (l.map xR) ex), .p (.v (.func (.func 111) #[] #[]))] True (.p (.b (l.any fun x => !evR x))) := ⟨fun _ => PCall.ent c1 (.cons Ent1.refl (.cons Ent1.fnc .nil))⟩
  have dl := mDots_len l
  have c2 := whole_w (mDots l) false (by omega) (fun d hd => by obtain ⟨x, hx, rfl⟩ := mDots_sub hd; exact hb x hx)
  haveI : PC Tryz.prog 113 [.p (.sl 2 ((mDots l).map dR) false)] True (.p (.b (wholeF (mDots l)))) := ⟨fun _ => c2⟩
  have c3 := containsFuncDW_w 115 [.bx [.sl 2 ((mDots l).map dR) false] 0] inferInstance (fun d => !decide (d ∈ mDots l)) (mOff l) false (mOff_len h ho) (fun d => whole2_w (mDots l) d (by omega))
  haveI : PC Tryz.prog 114 [.p (.sl 2 ((mOff l).map dR) false), .p (.fnv 115 [.bx [.sl 2 ((mDots l).map dR) false] 0])] True (.p (.b ((mOff l).any fun d => !decide (d ∈ mDots l)))) := ⟨fun _ => c3⟩
  clear c1 c2 c3
  unfold mWhole
  cases q1 : (l.any fun x => !evR x) with
  | true =>
    as_aux_lemma =>
      repeat' (first | refine rnC ?_ | refine rnSB ?_ | refine rnG ?_ | refine rnU ?_ | ((fail_if_success (refine rnKn ?_)); refine rnP ?_ ?_ <;> (intro hq; try (have hq' := hq; simp only [hqs] at hq'))) | refine rkC ?_ | refine rkSB ?_ | refine rkF ?_ | refine rkU ?_ | ((fail_if_success (refine rkKn ?_)); refine rkP ?_ ?_ <;> (intro hq; try (have hq' := hq; simp only [hqs] at hq'))) | refine stp ?_ | refine aws_draws [] mixed (by kernel_rfl) ?_ | refine ifT ?_ | refine ifF ?_ | (refine ifQ ?_ ?_ <;> (try (intro hn))) | (refine ifB ?_ ?_ <;> (intro hq; try (have hq' := hq; simp only [hqs] at hq'))))
      exact rt1 rfl rfl finS_p rfl
  | false =>
    cases q2 : mClash l with
    | true =>
      as_aux_lemma =>
        repeat' (first | refine rnC ?_ | refine rnSB ?_ | refine rnG ?_ | refine rnU ?_ | ((fail_if_success (refine rnKn ?_)); refine rnP ?_ ?_ <;> (intro hq; try (have hq' := hq; simp only [hqs] at hq'))) | refine rkC ?_ | refine rkSB ?_ | refine rkF ?_ | refine rkU ?_ | ((fail_if_success (refine rkKn ?_)); refine rkP ?_ ?_ <;> (intro hq; try (have hq' := hq; simp only [hqs] at hq'))) | refine stp ?_ | refine aws_draws [] mixed (by kernel_rfl) ?_ | refine ifT ?_ | refine ifF ?_ | (refine ifQ ?_ ?_ <;> (try (intro hn))) | (refine ifB ?_ ?_ <;> (intro hq; try (have hq' := hq; simp only [hqs] at hq'))))
        exact rt1 rfl rfl finS_p rfl
    | false =>
      cases q3 : wholeF (mDots l) with
      | true =>
        as_aux_lemma =>
          repeat' (first | refine rnC ?_ | refine rnSB ?_ | refine rnG ?_ | refine rnU ?_ | ((fail_if_success (refine rnKn ?_)); refine rnP ?_ ?_ <;> (intro hq; try (have hq' := hq; simp only [hqs] at hq'))) | refine rkC ?_ | refine rkSB ?_ | refine rkF ?_ | refine rkU ?_ | ((fail_if_success (refine rkKn ?_)); refine rkP ?_ ?_ <;> (intro hq; try (have hq' := hq; simp only [hqs] at hq'))) | refine stp ?_ | refine aws_draws [] mixed (by kernel_rfl) ?_ | refine ifT ?_ | refine ifF ?_ | (refine ifQ ?_ ?_ <;> (try (intro hn))) | (refine ifB ?_ ?_ <;> (intro hq; try (have hq' := hq; simp only [hqs] at hq'))))
          exact rt1 rfl rfl finS_p rfl
      | false =>
        as_aux_lemma =>
          repeat' (first | refine rnC ?_ | refine rnSB ?_ | refine rnG ?_ | refine rnU ?_ | ((fail_if_success (refine rnKn ?_)); refine rnP ?_ ?_ <;> (intro hq; try (have hq' := hq; simp only [hqs] at hq'))) | refine rkC ?_ | refine rkSB ?_ | refine rkF ?_ | refine rkU ?_ | ((fail_if_success (refine rkKn ?_)); refine rkP ?_ ?_ <;> (intro hq; try (have hq' := hq; simp only [hqs] at hq'))) | refine stp ?_ | refine aws_draws [] mixed (by kernel_rfl) ?_ | refine ifT ?_ | refine ifF ?_ | (refine ifQ ?_ ?_ <;> (try (intro hn))) | (refine ifB ?_ ?_ <;> (intro hq; try (have hq' := hq; simp only [hqs] at hq'))))
          exact rt1 rfl rfl finS_p rfl
instance mWhole_i {l : List Evt} {ex : Bool} : PC Tryz.prog 69 [.p (.sl 6 (l.map xR) ex)] (l.length ≤ 1000 ∧ (∀ x ∈ l, (Evt.off x).length ≤ 100000) ∧ ∀ x ∈ l, (Evt.dot x).2 < 18446744073709551616) (.p (.b (mWhole l))) := ⟨fun h => mWhole_w l ex h.1 h.2.1 h.2.2⟩
theorem snocX {p : Evt → Bool} {l : List Evt} {i : Nat} (hi : i < l.length) : ((l.take (i + 1)).filter p).map entOf = ((l.take i).filter p).map entOf ++ (if p (l.getD i default) = true then [entOf (l.getD i default)] else []) := by
  rw [take_get' hi, List.filter_append, List.map_append]
  congr 1
  by_cases h : p (l.getD i default) = true
  · rw [if_pos h, List.filter_cons_of_pos h]; rfl
  · rw [if_neg h, List.filter_cons_of_neg h]; rfl
theorem mCart_w (l : List Evt) (ex : Bool) (h : l.length ≤ 1000) (ho : ∀ x ∈ l, (Evt.off x).length ≤ 100000) (hb : ∀ x ∈ l, (Evt.dot x).2 < 18446744073709551616) : PCall Tryz.prog 34 [.p (.sl 6 (l.map xR) ex)] (.tup [.agg (cL (mCart l).1.1 (mCart l).1.2 false), .one (.p (.i (mCart l).2))]) := by
  refine pcall_of Tryz.func34 rfl (fun w0 F S0 M0 => ?_)
  have h6 : l.length ≤ 1000000 := by omega
  have ho6 : ∀ x ∈ l, (Evt.off x).length ≤ 1000000 := fun x hx => Nat.le_trans (ho x hx) (by decide)
  cases hw : mWhole l with
  | false =>
    have d1 : (!mWhole l) = true := by rw [hw]; rfl
    have e : mCart l = ((zeroV, []), 7) := by unfold mCart; rw [if_pos hw]
    rw [e]
    as_aux_lemma =>
      repeat' (first | refine rnC ?_ | refine rnSB ?_ | refine rnG ?_ | refine rnU ?_ | ((fail_if_success (refine rnKn ?_)); refine rnP ?_ ?_ <;> (intro hq; try (have hq' := hq; simp only [hqs] at hq'))) | refine rkC ?_ | refine rkSB ?_ | refine rkF ?_ | refine rkU ?_ | ((fail_if_success (refine rkKn ?_)); refine rkP ?_ ?_ <;> (intro hq; try (have hq' := hq; simp only [hqs] at hq'))) | refine stp ?_ | refine aws_draws [] mixed (by kernel_rfl) ?_ | refine ifT ?_ | refine ifF ?_ | (refine ifQ ?_ ?_ <;> (try (intro hn))) | (refine ifB ?_ ?_ <;> (intro hq; try (have hq' := hq; simp only [hqs] at hq'))))
      exact rc2 rfl rfl rfl rfl rfl rfl fin9 rfl finS_p rfl
  | true =>
    have d1 : (!mWhole l) = false := by rw [hw]; rfl
    obtain ⟨U, hU⟩ : ∃ U, U = mUnion l [] := ⟨_, rfl⟩
    have ul : U.length ≤ 1000 := by rw [hU]; have := union_len l []; rw [List.length_nil, Nat.add_zero] at this; omega
    have uo : ∀ x ∈ U, (Evt.off x).length ≤ 100000 := fun x hx => by rw [hU] at hx; exact ho x ((union_mem.1 hx).elim id fun k => by cases k)
    have cu : PCall Tryz.prog 32 [.p (.sl 6 (l.map xR) ex), .p (.v (.slice none 0 0))] (.p (.sl 6 (U.map xR) false)) := by
      rw [hU]
      exact PCall.ent (union_w l [] ex false h6 (by simp) (by rw [List.append_nil]; exact ho6)) (.cons Ent1.refl (.cons Ent1.nil .nil))
    haveI : PC Tryz.prog 32 [.p (.sl 6 (l.map xR) ex), .p (.v (.slice none 0 0))] True (.p (.sl 6 (U.map xR) false)) := ⟨fun _ => cu⟩
    clear cu
    have hol := mOff_len h ho
    obtain ⟨G, hG⟩ : ∃ G, G = mOff l := ⟨_, rfl⟩
    rw [← hG] at hol
    have co := mOff_w l ex h ho
    rw [← hG] at co
    haveI : PC Tryz.prog 70 [.p (.sl 6 (l.map xR) ex)] True (.p (.sl 2 (G.map dR) false)) := ⟨fun _ => co⟩
    clear co
    have dl := mDots_len l
    have dl9 : (mDots l).length ≤ 1000000000 := by omega
    repeat' (first | refine rnC ?_ | refine rnSB ?_ | refine rnG ?_ | refine rnU ?_ | ((fail_if_success (refine rnKn ?_)); refine rnP ?_ ?_ <;> (intro hq; try (have hq' := hq; simp only [hqs] at hq'))) | refine rkC ?_ | refine rkSB ?_ | refine rkF ?_ | refine rkU ?_ | ((fail_if_success (refine rkKn ?_)); refine rkP ?_ ?_ <;> (intro hq; try (have hq' := hq; simp only [hqs] at hq'))) | refine stp ?_ | refine ifT ?_ | refine ifF ?_ | (refine ifQ ?_ ?_ <;> (try (intro hn))) | (refine ifB ?_ ?_ <;> (intro hq; try (have hq' := hq; simp only [hqs] at hq'))))
    refine aws_says (says_nil (t := 5) (o := 901) (ty := 119) (es := 4) rfl rfl (by decide)) ?_
    refine aws_loopS [5, 7, 17, 18, 19, 20, 21, 22, 23, 24, 25, 26, 27, 28, 29, 30, 31, 32, 33, 34, 35, 36, 37, 38, 39, 40, 41, 42, 43, 44] [7, 901] (fun (x : Nat × Nat × List Ent × Option MO) => [(17, .p (.i x.1)), (5, .o (.osl 901 x.2.1 4 0 x.2.2.1.length))]) (fun x => [(7, (x.1, x.2.2.2)), (901, (x.2.1 + 1, some (.buf 119 4 (x.2.2.1.map eR))))])
      (fun x => x.1 ≤ U.length ∧ x.2.2.1 = ((U.take x.1).filter (inF l)).map entOf) (fun x => U.length - x.1) (0, 0, [], none) ⟨Nat.zero_le _, rfl⟩ (by exact knA) (by exact knA) ?_
    rintro ⟨i, g, m, c7⟩ β γ ⟨hi, hm⟩
    simp only at hi hm
    have hml : m.length ≤ 1000 := by
      rw [hm, List.length_map]
      refine Nat.le_trans (List.length_filter_le _ _) ?_
      rw [List.length_take]; omega
    dsimp only
    by_cases hil : i < U.length
    · have hd : decide ((i : Int) < (U.length : Int)) = true := decide_eq_true (by omega)
      have ei : (i : Int).toNat = i := Int.toNat_natCast i
      have hst := snocX (p := inF l) hil
      rw [← hm] at hst
      cases ha : addsE (U.getD (i : Int).toNat default) with
      | false =>
        rw [if_neg (by unfold inF; rw [ei] at ha; rw [ha]; simp), List.append_nil] at hst
        as_aux_lemma =>
          repeat' (first | refine rnC ?_ | refine rnSB ?_ | refine rnG ?_ | refine rnU ?_ | ((fail_if_success (refine rnKn ?_)); refine rnP ?_ ?_ <;> (intro hq; try (have hq' := hq; simp only [hqs] at hq'))) | refine rkC ?_ | refine rkSB ?_ | refine rkF ?_ | refine rkU ?_ | ((fail_if_success (refine rkKn ?_)); refine rkP ?_ ?_ <;> (intro hq; try (have hq' := hq; simp only [hqs] at hq'))) | refine stp ?_ | refine ifT ?_ | refine ifF ?_ | (refine ifQ ?_ ?_ <;> (try (intro hn))) | (refine ifB ?_ ?_ <;> (intro hq; try (have hq' := hq; simp only [hqs] at hq'))))
          exact ⟨(i + 1, g, m, _), _, by dsimp only; omega, ⟨by dsimp only; omega, hst.symm⟩, .refl, by exact frA⟩
      | true =>
        by_cases hg : (U.getD (i : Int).toNat default).2.2.2.1 ∈ G
        · have d2 : (!decide ((U.getD (i : Int).toNat default).2.2.2.1 ∈ G)) = false := by rw [decide_eq_true hg]; rfl
          rw [ei, hG] at hg
          rw [if_neg (by unfold inF; rw [decide_eq_true hg]; simp), List.append_nil] at hst
          as_aux_lemma =>
            repeat' (first | refine rnC ?_ | refine rnSB ?_ | refine rnG ?_ | refine rnU ?_ | ((fail_if_success (refine rnKn ?_)); refine rnP ?_ ?_ <;> (intro hq; try (have hq' := hq; simp only [hqs] at hq'))) | refine rkC ?_ | refine rkSB ?_ | refine rkF ?_ | refine rkU ?_ | ((fail_if_success (refine rkKn ?_)); refine rkP ?_ ?_ <;> (intro hq; try (have hq' := hq; simp only [hqs] at hq'))) | refine stp ?_ | refine ifT ?_ | refine ifF ?_ | (refine ifQ ?_ ?_ <;> (try (intro hn))) | (refine ifB ?_ ?_ <;> (intro hq; try (have hq' := hq; simp only [hqs] at hq'))))
            exact ⟨(i + 1, g, m, _), _, by dsimp only; omega, ⟨by dsimp only; omega, hst.symm⟩, .refl, by exact frA⟩
        · have d2 : (!decide ((U.getD (i : Int).toNat default).2.2.2.1 ∈ G)) = true := by rw [decide_eq_false hg]; rfl
          rw [ei, hG] at hg
          rw [if_pos (by unfold inF; rw [ei] at ha; rw [ha, decide_eq_false hg]; rfl)] at hst
          as_aux_lemma =>
            repeat' (first | refine rnC ?_ | refine rnSB ?_ | refine rnG ?_ | refine rnU ?_ | ((fail_if_success (refine rnKn ?_)); refine rnP ?_ ?_ <;> (intro hq; try (have hq' := hq; simp only [hqs] at hq'))) | refine rkC ?_ | refine rkSB ?_ | refine rkF ?_ | refine rkU ?_ | ((fail_if_success (refine rkKn ?_)); refine rkP ?_ ?_ <;> (intro hq; try (have hq' := hq; simp only [hqs] at hq'))) | refine stp ?_ | refine ifT ?_ | refine ifF ?_ | (refine ifQ ?_ ?_ <;> (try (intro hn))) | (refine ifB ?_ ?_ <;> (intro hq; try (have hq' := hq; simp only [hqs] at hq'))))
            refine ⟨(i + 1, g + 1, m ++ [(_, _, _, _)], _), _, by dsimp only; omega, ⟨by dsimp only; omega, ?_⟩, .refl, by exact frA⟩
            dsimp only
            rw [hst, ei]; rfl
    · have hd : decide ((i : Int) < (U.length : Int)) = false := decide_eq_false (by omega)
      have e0 : outE l = m := by rw [hm, List.take_of_length_le (by omega), hU]; rfl
      refine aws_says (says_frz (t := 5) (o := 901) rfl rfl rfl (by simp)) ?_
      have hm9 : m.length ≤ 1000000000 := by omega
      by_cases h4 : 400 < m.length
      · have d3 : decide (400 < (m.length : Int)) = true := decide_eq_true (by omega)
        have e : mCart l = ((zeroV, []), 5) := by unfold mCart; rw [if_neg (by rw [hw]; simp), e0, if_pos h4]
        rw [e]
        as_aux_lemma =>
          repeat' (first | refine rnC ?_ | refine rnSB ?_ | refine rnG ?_ | refine rnU ?_ | ((fail_if_success (refine rnKn ?_)); refine rnP ?_ ?_ <;> (intro hq; try (have hq' := hq; simp only [hqs] at hq'))) | refine rkC ?_ | refine rkSB ?_ | refine rkF ?_ | refine rkU ?_ | ((fail_if_success (refine rkKn ?_)); refine rkP ?_ ?_ <;> (intro hq; try (have hq' := hq; simp only [hqs] at hq'))) | refine stp ?_ | refine ifT ?_ | refine ifF ?_ | (refine ifQ ?_ ?_ <;> (try (intro hn))) | (refine ifB ?_ ?_ <;> (intro hq; try (have hq' := hq; simp only [hqs] at hq'))))
          exact rc2 rfl rfl rfl rfl rfl rfl fin9 rfl finS_p rfl
      · have d3 : decide (400 < (m.length : Int)) = false := decide_eq_false (by omega)
        have e : mCart l = ((spanTo (mDots l) (mDots l).length, sortE m), 0) := by unfold mCart; rw [if_neg (by rw [hw]; simp), e0, if_neg h4]
        rw [e]
        as_aux_lemma =>
          repeat' (first | refine rnC ?_ | refine rnSB ?_ | refine rnG ?_ | refine rnU ?_ | ((fail_if_success (refine rnKn ?_)); refine rnP ?_ ?_ <;> (intro hq; try (have hq' := hq; simp only [hqs] at hq'))) | refine rkC ?_ | refine rkSB ?_ | refine rkF ?_ | refine rkU ?_ | ((fail_if_success (refine rkKn ?_)); refine rkP ?_ ?_ <;> (intro hq; try (have hq' := hq; simp only [hqs] at hq'))) | refine stp ?_ | refine ifT ?_ | refine ifF ?_ | (refine ifQ ?_ ?_ <;> (try (intro hn))) | (refine ifB ?_ ?_ <;> (intro hq; try (have hq' := hq; simp only [hqs] at hq'))))
          exact rc2 rfl rfl rfl rfl rfl rfl finL_p rfl finS_p rfl
instance mCart_i {l : List Evt} {ex : Bool} : PC Tryz.prog 34 [.p (.sl 6 (l.map xR) ex)] (l.length ≤ 1000 ∧ (∀ x ∈ l, (Evt.off x).length ≤ 100000) ∧ ∀ x ∈ l, (Evt.dot x).2 < 18446744073709551616) (.tup [.agg (cL (mCart l).1.1 (mCart l).1.2 false), .one (.p (.i (mCart l).2))]) := ⟨fun h => mCart_w l ex h.1 h.2.1 h.2.2⟩
end Go.Proofs.YtebjmleheiefdaaGreat.Ca
namespace Go.Proofs.YtebjmleheiefdaaGreat.Ca
open Go Go.RowKit Go.Aw Go.Aw.Cart Go.Aw.Ord Go.Sort
set_option linter.unusedVariables false
set_option linter.unusedSimpArgs false
set_option maxRecDepth 8000
set_option maxHeartbeats 4000000
namespace K5
def va : List Int := [1, 0, 0, 0, 0, 0, 0, 0]
def vb : List Int := [1, 1, 0, 0, 0, 0, 0, 0]
def e1 : Ent := (5, 1, 1, 2)
def e3 : Ent := (5, 1, 1, 3)
def b1 : Ent := (6, 2, 1, 1)
theorem ra : rightF va [e1] = true := rightF_iff.2 ⟨by decide, by decide, by decide⟩
theorem rb : rightF vb [b1] = true := rightF_iff.2 ⟨by decide, by decide, by decide⟩
theorem rc : rightF va [e3] = true := rightF_iff.2 ⟨by decide, by decide, by decide⟩
theorem rd : rightF zeroV [e3] = false := by
  rw [← Bool.not_eq_true]
  intro h
  have := (ok_iff.1 h).has e3 (by simp)
  rw [has_zero] at this; cases this
theorem sb : sortE [b1] = [b1] := sortE_id (List.pairwise_singleton _ _)
theorem t1 : twoF (va, [e1]) (vb, [b1]) = ((vb, [b1]), 0) := by
  unfold twoF
  rw [ra, rb, if_neg (by simp), if_neg (by decide), if_neg (by decide), show bothF (va, [e1]) (vb, [b1]) = [b1] by decide, sb]; rfl
theorem t2 : twoF (vb, [b1]) (va, [e1]) = ((vb, [b1]), 0) := by
  unfold twoF
  rw [ra, rb, if_neg (by simp), if_neg (by decide), if_neg (by decide), show bothF (vb, [b1]) (va, [e1]) = [b1] by decide, sb]; rfl
theorem t3 : twoF (va, [e1]) (va, [e3]) = ((zeroV, []), 14) := by
  unfold twoF
  rw [ra, rc, if_neg (by simp), if_pos (by decide)]
theorem t4 : twoF (va, [e1]) (zeroV, [e3]) = ((zeroV, []), 3) := by
  unfold twoF
  rw [rd, if_pos (by simp)]
theorem rz : rightF zeroV [] = true := rightF_iff.2 ⟨by decide, by decide, by decide⟩
theorem t5 : twoF (zeroV, []) (vb, [b1]) = ((vb, [b1]), 0) := by
  unfold twoF
  rw [rz, rb, if_neg (by simp), if_neg (by decide), if_neg (by decide), show bothF (zeroV, []) (vb, [b1]) = [b1] by decide, sb]; rfl
theorem t6 : twoF (vb, [b1]) (zeroV, []) = ((vb, [b1]), 0) := by
  unfold twoF
  rw [rz, rb, if_neg (by simp), if_neg (by decide), if_neg (by decide), show bothF (vb, [b1]) (zeroV, []) = [b1] by decide, sb]; rfl
theorem t7 : allF [(vb, [b1]), (va, [e1]), (zeroV, [])] 3 = ((vb, [b1]), 0) := by
  have h1 : allF [(vb, [b1]), (va, [e1]), (zeroV, [])] 1 = ((vb, [b1]), 0) := by
    show (if (0 : Int) = 0 then (if (twoF (zeroV, []) (vb, [b1])).2 = 0 then twoF (zeroV, []) (vb, [b1]) else ((zeroV, []), (twoF (zeroV, []) (vb, [b1])).2)) else ((zeroV, []), 0)) = _
    rw [t5]; rfl
  have h2 : allF [(vb, [b1]), (va, [e1]), (zeroV, [])] 2 = ((vb, [b1]), 0) := by
    rw [show (2 : Nat) = 1 + 1 from rfl, allF, h1]
    show (if (0 : Int) = 0 then (if (twoF (vb, [b1]) (va, [e1])).2 = 0 then twoF (vb, [b1]) (va, [e1]) else ((zeroV, []), (twoF (vb, [b1]) (va, [e1])).2)) else ((vb, [b1]), 0)) = _
    rw [t2]; rfl
  rw [show (3 : Nat) = 2 + 1 from rfl, allF, h2]
  show (if (0 : Int) = 0 then (if (twoF (vb, [b1]) (zeroV, [])).2 = 0 then twoF (vb, [b1]) (zeroV, []) else ((zeroV, []), (twoF (vb, [b1]) (zeroV, [])).2)) else ((vb, [b1]), 0)) = _
  rw [t6]; rfl
end K5
open J3 K5
end Go.Proofs.YtebjmleheiefdaaGreat.Ca
namespace Go.Proofs.YtebjmleheiefdaaGreat.Ca
open Go Go.RowKit Go.Aw Go.Aw.Cart Go.Aw.Ord Go.Sort
set_option linter.unusedVariables false
set_option linter.unusedSimpArgs false
set_option maxRecDepth 8000
set_option maxHeartbeats 4000000
open M6
/-- too much for a statement -/
def greatX (l : List Evt) : Bool := l.any fun x => decide (40 < l.length) || decide (30 < (Evt.off x).length)
theorem great_not {l : List Evt} (h : greatX l = false) : l.length ≤ 40 ∧ ∀ x ∈ l, (Evt.off x).length ≤ 30 := by
  unfold greatX at h
  rw [List.any_eq_false] at h
  have k : ∀ x ∈ l, l.length ≤ 40 ∧ (Evt.off x).length ≤ 30 := fun x hx => by
    have := h x hx
    simp only [Bool.or_eq_true, decide_eq_true_eq, not_or] at this
    omega
  refine ⟨?_, fun x hx => (k x hx).2⟩
  cases l with
  | nil => simp
  | cons a l => exact (k a List.mem_cons_self).1
theorem subset1_w (b : List Evt) (ex : Bool) (x : Evt) (hb : b.length ≤ 1000000000) (hx : (Evt.off x).length ≤ 1000000000) : PCall Tryz.prog 120 [xV x, .p (.bx [.sl 6 (b.map xR) ex] 0)] (.p (.b (!decide (x ∈ b)))) := by
  refine pcall_of Tryz.func120 rfl (fun w0 F S0 M0 => ?_)
  have hl : (x.2.2.2.2).length ≤ 1000000000 := hx
  as_aux_lemma =>
    repeat' (first | refine rnC ?_ | refine rnSB ?_ | refine rnG ?_ | refine rnU ?_ | ((fail_if_success (refine rnKn ?_)); refine rnP ?_ ?_ <;> (intro hq; try (have hq' := hq; simp only [hqs] at hq'))) | refine rkC ?_ | refine rkSB ?_ | refine rkF ?_ | refine rkU ?_ | ((fail_if_success (refine rkKn ?_)); refine rkP ?_ ?_ <;> (intro hq; try (have hq' := hq; simp only [hqs] at hq'))) | refine stp ?_ | refine aws_draws [] mixed (by kernel_rfl) ?_ | refine ifT ?_ | refine ifF ?_ | (refine ifQ ?_ ?_ <;> (try (intro hn))) | (refine ifB ?_ ?_ <;> (intro hq; try (have hq' := hq; simp only [hqs] at hq'))))
    exact rt1 rfl rfl finS_p rfl
theorem subset_w (a b : List Evt) (ex ey : Bool) (ha : a.length ≤ 1000000000) (hb : b.length ≤ 1000000000) (ho : ∀ x ∈ a, (Evt.off x).length ≤ 1000000000) : PCall Tryz.prog 77 [.p (.sl 6 (a.map xR) ex), .p (.sl 6 (b.map xR) ey)] (.p (.b (!(a.any fun x => !decide (x ∈ b))))) := by
  refine pcall_of Tryz.func77 rfl (fun w0 F S0 M0 => ?_)
  have c := containsFuncXm_w 120 [.bx [.sl 6 (b.map xR) ey] 0] inferInstance (fun x => !decide (x ∈ b)) a ex ha (fun x hx => subset1_w b ey x hb (ho x hx))
  haveI : PC Tryz.prog 100 [.p (.sl 6 (a.map xR) ex), .p (.fnv 120 [.bx [.sl 6 (b.map xR) ey] 0])] True (.p (.b (a.any fun x => !decide (x ∈ b)))) := ⟨fun _ => c⟩
  as_aux_lemma =>
    repeat' (first | refine rnC ?_ | refine rnSB ?_ | refine rnG ?_ | refine rnU ?_ | ((fail_if_success (refine rnKn ?_)); refine rnP ?_ ?_ <;> (intro hq; try (have hq' := hq; simp only [hqs] at hq'))) | refine rkC ?_ | refine rkSB ?_ | refine rkF ?_ | refine rkU ?_ | ((fail_if_success (refine rkKn ?_)); refine rkP ?_ ?_ <;> (intro hq; try (have hq' := hq; simp only [hqs] at hq'))) | refine stp ?_ | refine aws_draws [] mixed (by kernel_rfl) ?_ | refine ifT ?_ | refine ifF ?_ | (refine ifQ ?_ ?_ <;> (try (intro hn))) | (refine ifB ?_ ?_ <;> (intro hq; try (have hq' := hq; simp only [hqs] at hq'))))
    exact rt1 rfl rfl finS_p rfl
namespace K9
abbrev xa : Evt := (1, 5, 2, (1, 1), [])
abbrev xb : Evt := (2, 5, 3, (2, 1), [(1, 1)])
abbrev xc : Evt := (3, 0, 0, (0, 0), [(2, 1)])
theorem up11 : ([(1, 1), (2, 1)] : List Dot).Pairwise ltD := List.pairwise_cons.2 ⟨fun x hx => by rw [List.mem_singleton.1 hx]; exact .inl (by decide), List.pairwise_singleton _ _⟩
theorem q1 : mDots [xb, xa, xb] = [(1, 1), (2, 1)] := by
  unfold mDots
  rw [show ([xb, xa, xb].filter mkE).map Evt.dot = [(2, 1), (1, 1), (2, 1)] by decide]
  exact set_are (by decide) up11 fun x => by
    obtain ⟨a, b⟩ := x
    simp only [List.mem_cons, List.not_mem_nil, or_false, Prod.mk.injEq, dotF, decide_eq_true_eq]
    omega
theorem k8 : mDots [xa, xb, xc] = [(1, 1), (2, 1)] := by
  unfold mDots
  rw [show ([xa, xb, xc].filter mkE).map Evt.dot = [(1, 1), (2, 1)] by decide]
  exact set_are (by decide) up11 fun x => by
    obtain ⟨a, b⟩ := x
    simp only [List.mem_cons, List.not_mem_nil, or_false, Prod.mk.injEq, dotF, decide_eq_true_eq]
    omega
theorem q3 : mDots [xb] = [(2, 1)] := by
  unfold mDots
  rw [show ([xb].filter mkE).map Evt.dot = [(2, 1)] by decide]
  exact set_are (by decide) (List.pairwise_singleton _ _) fun x => by
    obtain ⟨a, b⟩ := x
    simp only [List.mem_cons, List.not_mem_nil, or_false, Prod.mk.injEq, dotF, decide_eq_true_eq]
    omega
theorem k1 : mCart [xb, xa, xb] = (([1, 1, 0, 0, 0, 0, 0, 0], [(5, 2, 1, 3)]), 0) := by
  unfold mCart
  rw [if_neg (by unfold mWhole; rw [q1]; decide), show outE [xb, xa, xb] = [(5, 2, 1, 3)] by decide, if_neg (by decide), q1, sortE_id (List.pairwise_singleton _ _), show spanTo [(1, 1), (2, 1)] ([(1, 1), (2, 1)] : List Dot).length = [1, 1, 0, 0, 0, 0, 0, 0] by decide]
theorem k2 : mCart [xa, xb, xc] = (([1, 1, 0, 0, 0, 0, 0, 0], []), 0) := by
  unfold mCart
  rw [if_neg (by unfold mWhole; rw [k8]; decide), show outE [xa, xb, xc] = [] by decide, if_neg (by decide), k8, sortE_id .nil, show spanTo [(1, 1), (2, 1)] ([(1, 1), (2, 1)] : List Dot).length = [1, 1, 0, 0, 0, 0, 0, 0] by decide]
theorem k3 : mCart [xb] = ((zeroV, []), 7) := by
  unfold mCart
  rw [if_pos (by unfold mWhole; rw [q3]; decide)]
theorem k9 : rightF [1, 1, 0, 0, 0, 0, 0, 0] [(5, 2, 1, 3)] = true := rightF_iff.2 ⟨by decide, by decide, by decide⟩
end K9
open K9
theorem alive9_w : PCall Tryz.prog 36 [] (.p (.b true)) := by
  refine pcall_of Tryz.func36 rfl (fun w0 F S0 M0 => ?_)
  have c0 : PCall Tryz.prog 34 [.p (.sl 6 [[.i 2, .i 5, .i 3, .i 2, .k .u64 1, .sl 2 [[.i 1, .k .u64 1]] true], [.i 1, .i 5, .i 2, .i 1, .k .u64 1, .v (.slice none 0 0)], [.i 2, .i 5, .i 3, .i 2, .k .u64 1, .sl 2 [[.i 1, .k .u64 1]] true]] true)] (.tup [.agg [.p (.k .u64 1), .p (.k .u64 1), .p (.k .u64 0), .p (.k .u64 0), .p (.k .u64 0), .p (.k .u64 0), .p (.k .u64 0), .p (.k .u64 0), .p (.sl 4 [[.i 5, .i 2, .k .u64 1, .i 3]] false)], .one (.p (.i 0))]) := by
    have k := mCart_w [xb, xa, xb] false (by decide) (by decide) (by decide)
    rw [k1] at k
    exact PCall.ent k (.cons (Ent1.rows (.cons (.cons .refl (.cons .refl (.cons .refl (.cons .refl (.cons .refl (.cons .ex .nil)))))) (.cons (.cons .refl (.cons .refl (.cons .refl (.cons .refl (.cons .refl (.cons .nil .nil)))))) (.cons (.cons .refl (.cons .refl (.cons .refl (.cons .refl (.cons .refl (.cons .ex .nil)))))) .nil)))) .nil)
  haveI : PC Tryz.prog 34 [.p (.sl 6 [[.i 2, .i 5, .i 3, .i 2, .k .u64 1, .sl 2 [[.i 1, .k .u64 1]] true], [.i 1, .i 5, .i 2, .i 1, .k .u64 1, .v (.slice none 0 0)], [.i 2, .i 5, .i 3, .i 2, .k .u64 1, .sl 2 [[.i 1, .k .u64 1]] true]] true)] True (.tup [.agg [.p (.k .u64 1), .p (.k .u64 1), .p (.k .u64 0), .p (.k .u64 0), .p (.k .u64 0), .p (.k .u64 0), .p (.k .u64 0), .p (.k .u64 0), .p (.sl 4 [[.i 5, .i 2, .k .u64 1, .i 3]] false)], .one (.p (.i 0))]) := ⟨fun _ => c0⟩
  have c1 : PCall Tryz.prog 34 [.p (.sl 6 [[.i 1, .i 5, .i 2, .i 1, .k .u64 1, .v (.slice none 0 0)], [.i 2, .i 5, .i 3, .i 2, .k .u64 1, .sl 2 [[.i 1, .k .u64 1]] true], [.i 3, .i 0, .i 0, .i 0, .k .u64 0, .sl 2 [[.i 2, .k .u64 1]] true]] true)] (.tup [.agg [.p (.k .u64 1), .p (.k .u64 1), .p (.k .u64 0), .p (.k .u64 0), .p (.k .u64 0), .p (.k .u64 0), .p (.k .u64 0), .p (.k .u64 0), .p (.sl 4 [] false)], .one (.p (.i 0))]) := by
    have k := mCart_w [xa, xb, xc] false (by decide) (by decide) (by decide)
    rw [k2] at k
    exact PCall.ent k (.cons (Ent1.rows (.cons (.cons .refl (.cons .refl (.cons .refl (.cons .refl (.cons .refl (.cons .nil .nil)))))) (.cons (.cons .refl (.cons .refl (.cons .refl (.cons .refl (.cons .refl (.cons .ex .nil)))))) (.cons (.cons .refl (.cons .refl (.cons .refl (.cons .refl (.cons .refl (.cons .ex .nil)))))) .nil)))) .nil)
  haveI : PC Tryz.prog 34 [.p (.sl 6 [[.i 1, .i 5, .i 2, .i 1, .k .u64 1, .v (.slice none 0 0)], [.i 2, .i 5, .i 3, .i 2, .k .u64 1, .sl 2 [[.i 1, .k .u64 1]] true], [.i 3, .i 0, .i 0, .i 0, .k .u64 0, .sl 2 [[.i 2, .k .u64 1]] true]] true)] True (.tup [.agg [.p (.k .u64 1), .p (.k .u64 1), .p (.k .u64 0), .p (.k .u64 0), .p (.k .u64 0), .p (.k .u64 0), .p (.k .u64 0), .p (.k .u64 0), .p (.sl 4 [] false)], .one (.p (.i 0))]) := ⟨fun _ => c1⟩
  have c2 : PCall Tryz.prog 34 [.p (.sl 6 [[.i 2, .i 5, .i 3, .i 2, .k .u64 1, .sl 2 [[.i 1, .k .u64 1]] true]] true)] (.tup [.agg [.p (.k .u64 0), .p (.k .u64 0), .p (.k .u64 0), .p (.k .u64 0), .p (.k .u64 0), .p (.k .u64 0), .p (.k .u64 0), .p (.k .u64 0), .p (.sl 4 [] false)], .one (.p (.i 7))]) := by
    have k := mCart_w [xb] false (by decide) (by decide) (by decide)
    rw [k3] at k
    exact PCall.ent k (.cons (Ent1.rows (.cons (.cons .refl (.cons .refl (.cons .refl (.cons .refl (.cons .refl (.cons .ex .nil)))))) .nil)) .nil)
  haveI : PC Tryz.prog 34 [.p (.sl 6 [[.i 2, .i 5, .i 3, .i 2, .k .u64 1, .sl 2 [[.i 1, .k .u64 1]] true]] true)] True (.tup [.agg [.p (.k .u64 0), .p (.k .u64 0), .p (.k .u64 0), .p (.k .u64 0), .p (.k .u64 0), .p (.k .u64 0), .p (.k .u64 0), .p (.k .u64 0), .p (.sl 4 [] false)], .one (.p (.i 7))]) := ⟨fun _ => c2⟩
  have c3 : PCall Tryz.prog 76 [.a [.p (.i 3), .p (.i 0), .p (.i 0), .p (.i 0), .p (.k .u64 0), .p (.sl 2 [[.i 2, .k .u64 1]] true)]] (.p (.b true)) := by
    have k := evRight_w xc (by decide)
    rw [(show evR xc = true by decide)] at k
    exact PCall.ent k (.cons (Ent1.cells (cs := [.i 3, .i 0, .i 0, .i 0, .k .u64 0, .sl 2 [[.i 2, .k .u64 1]] true]) (ds := xR xc) (.cons .refl (.cons .refl (.cons .refl (.cons .refl (.cons .refl (.cons .ex .nil))))))) .nil)
  haveI : PC Tryz.prog 76 [.a [.p (.i 3), .p (.i 0), .p (.i 0), .p (.i 0), .p (.k .u64 0), .p (.sl 2 [[.i 2, .k .u64 1]] true)]] True (.p (.b true)) := ⟨fun _ => c3⟩
  have c4 : PCall Tryz.prog 64 [.p (.sl 6 [[.i 1, .i 5, .i 2, .i 1, .k .u64 1, .v (.slice none 0 0)], [.i 3, .i 0, .i 0, .i 0, .k .u64 0, .sl 2 [[.i 2, .k .u64 1]] true]] true), .a [.p (.i 3), .p (.i 0), .p (.i 0), .p (.i 0), .p (.k .u64 0), .p (.sl 2 [[.i 2, .k .u64 1]] true)]] (.p (.b true)) := by
    have k := hasX_w [xa, xc] false xc (by decide) (by decide)
    rw [(show decide (xc ∈ [xa, xc]) = true by decide)] at k
    exact PCall.ent k (.cons (Ent1.rows (.cons (.cons .refl (.cons .refl (.cons .refl (.cons .refl (.cons .refl (.cons .nil .nil)))))) (.cons (.cons .refl (.cons .refl (.cons .refl (.cons .refl (.cons .refl (.cons .ex .nil)))))) .nil))) (.cons (Ent1.cells (cs := [.i 3, .i 0, .i 0, .i 0, .k .u64 0, .sl 2 [[.i 2, .k .u64 1]] true]) (ds := xR xc) (.cons .refl (.cons .refl (.cons .refl (.cons .refl (.cons .refl (.cons .ex .nil))))))) .nil))
  haveI : PC Tryz.prog 64 [.p (.sl 6 [[.i 1, .i 5, .i 2, .i 1, .k .u64 1, .v (.slice none 0 0)], [.i 3, .i 0, .i 0, .i 0, .k .u64 0, .sl 2 [[.i 2, .k .u64 1]] true]] true), .a [.p (.i 3), .p (.i 0), .p (.i 0), .p (.i 0), .p (.k .u64 0), .p (.sl 2 [[.i 2, .k .u64 1]] true)]] True (.p (.b true)) := ⟨fun _ => c4⟩
  have c5 : PCall Tryz.prog 77 [.p (.sl 6 [[.i 1, .i 5, .i 2, .i 1, .k .u64 1, .v (.slice none 0 0)], [.i 1, .i 5, .i 2, .i 1, .k .u64 1, .v (.slice none 0 0)]] true), .p (.sl 6 [[.i 2, .i 5, .i 3, .i 2, .k .u64 1, .sl 2 [[.i 1, .k .u64 1]] true], [.i 1, .i 5, .i 2, .i 1, .k .u64 1, .v (.slice none 0 0)]] true)] (.p (.b true)) := by
    have k := subset_w [xa, xa] [xb, xa] false false (by decide) (by decide) (by decide)
    rw [(show (!([xa, xa].any fun x => !decide (x ∈ [xb, xa]))) = true by decide)] at k
    exact PCall.ent k (.cons (Ent1.rows (.cons (.cons .refl (.cons .refl (.cons .refl (.cons .refl (.cons .refl (.cons .nil .nil)))))) (.cons (.cons .refl (.cons .refl (.cons .refl (.cons .refl (.cons .refl (.cons .nil .nil)))))) .nil))) (.cons (Ent1.rows (.cons (.cons .refl (.cons .refl (.cons .refl (.cons .refl (.cons .refl (.cons .ex .nil)))))) (.cons (.cons .refl (.cons .refl (.cons .refl (.cons .refl (.cons .refl (.cons .nil .nil)))))) .nil))) .nil))
  haveI : PC Tryz.prog 77 [.p (.sl 6 [[.i 1, .i 5, .i 2, .i 1, .k .u64 1, .v (.slice none 0 0)], [.i 1, .i 5, .i 2, .i 1, .k .u64 1, .v (.slice none 0 0)]] true), .p (.sl 6 [[.i 2, .i 5, .i 3, .i 2, .k .u64 1, .sl 2 [[.i 1, .k .u64 1]] true], [.i 1, .i 5, .i 2, .i 1, .k .u64 1, .v (.slice none 0 0)]] true)] True (.p (.b true)) := ⟨fun _ => c5⟩
  have c6 : PCall Tryz.prog 32 [.p (.sl 6 [[.i 1, .i 5, .i 2, .i 1, .k .u64 1, .v (.slice none 0 0)], [.i 1, .i 5, .i 2, .i 1, .k .u64 1, .v (.slice none 0 0)]] true), .p (.sl 6 [[.i 2, .i 5, .i 3, .i 2, .k .u64 1, .sl 2 [[.i 1, .k .u64 1]] true], [.i 1, .i 5, .i 2, .i 1, .k .u64 1, .v (.slice none 0 0)]] true)] (.p (.sl 6 [[.i 1, .i 5, .i 2, .i 1, .k .u64 1, .sl 2 [] false], [.i 2, .i 5, .i 3, .i 2, .k .u64 1, .sl 2 [[.i 1, .k .u64 1]] false]] false)) := by
    have k := union_w [xa, xa] [xb, xa] false false (by decide) (by decide) (by decide)
    rw [(show mUnion [xa, xa] [xb, xa] = [xa, xb] from rfl)] at k
    exact PCall.ent k (.cons (Ent1.rows (.cons (.cons .refl (.cons .refl (.cons .refl (.cons .refl (.cons .refl (.cons .nil .nil)))))) (.cons (.cons .refl (.cons .refl (.cons .refl (.cons .refl (.cons .refl (.cons .nil .nil)))))) .nil))) (.cons (Ent1.rows (.cons (.cons .refl (.cons .refl (.cons .refl (.cons .refl (.cons .refl (.cons .ex .nil)))))) (.cons (.cons .refl (.cons .refl (.cons .refl (.cons .refl (.cons .refl (.cons .nil .nil)))))) .nil))) .nil))
  haveI : PC Tryz.prog 32 [.p (.sl 6 [[.i 1, .i 5, .i 2, .i 1, .k .u64 1, .v (.slice none 0 0)], [.i 1, .i 5, .i 2, .i 1, .k .u64 1, .v (.slice none 0 0)]] true), .p (.sl 6 [[.i 2, .i 5, .i 3, .i 2, .k .u64 1, .sl 2 [[.i 1, .k .u64 1]] true], [.i 1, .i 5, .i 2, .i 1, .k .u64 1, .v (.slice none 0 0)]] true)] True (.p (.sl 6 [[.i 1, .i 5, .i 2, .i 1, .k .u64 1, .sl 2 [] false], [.i 2, .i 5, .i 3, .i 2, .k .u64 1, .sl 2 [[.i 1, .k .u64 1]] false]] false)) := ⟨fun _ => c6⟩
  have c7 : PCall Tryz.prog 74 [.p (.sl 6 [[.i 1, .i 5, .i 2, .i 1, .k .u64 1, .v (.slice none 0 0)], [.i 2, .i 5, .i 3, .i 2, .k .u64 1, .sl 2 [[.i 1, .k .u64 1]] true], [.i 3, .i 0, .i 0, .i 0, .k .u64 0, .sl 2 [[.i 2, .k .u64 1]] true]] true)] (.p (.sl 2 [[.i 1, .k .u64 1], [.i 2, .k .u64 1]] false)) := by
    have k := mDots_w [xa, xb, xc] false (by decide) (by decide)
    rw [k8] at k
    exact PCall.ent k (.cons (Ent1.rows (.cons (.cons .refl (.cons .refl (.cons .refl (.cons .refl (.cons .refl (.cons .nil .nil)))))) (.cons (.cons .refl (.cons .refl (.cons .refl (.cons .refl (.cons .refl (.cons .ex .nil)))))) (.cons (.cons .refl (.cons .refl (.cons .refl (.cons .refl (.cons .refl (.cons .ex .nil)))))) .nil)))) .nil)
  haveI : PC Tryz.prog 74 [.p (.sl 6 [[.i 1, .i 5, .i 2, .i 1, .k .u64 1, .v (.slice none 0 0)], [.i 2, .i 5, .i 3, .i 2, .k .u64 1, .sl 2 [[.i 1, .k .u64 1]] true], [.i 3, .i 0, .i 0, .i 0, .k .u64 0, .sl 2 [[.i 2, .k .u64 1]] true]] true)] True (.p (.sl 2 [[.i 1, .k .u64 1], [.i 2, .k .u64 1]] false)) := ⟨fun _ => c7⟩
  have c8 : PCall Tryz.prog 56 [.a [.p (.k .u64 1), .p (.k .u64 1), .p (.k .u64 0), .p (.k .u64 0), .p (.k .u64 0), .p (.k .u64 0), .p (.k .u64 0), .p (.k .u64 0), .p (.sl 4 [[.i 5, .i 2, .k .u64 1, .i 3]] false)]] (.p (.b true)) := by
    have k := right_w [1, 1, 0, 0, 0, 0, 0, 0] [(5, 2, 1, 3)] false rfl (by decide)
    rw [k9] at k
    exact PCall.ent k (.cons Ent1.refl .nil)
  haveI : PC Tryz.prog 56 [.a [.p (.k .u64 1), .p (.k .u64 1), .p (.k .u64 0), .p (.k .u64 0), .p (.k .u64 0), .p (.k .u64 0), .p (.k .u64 0), .p (.k .u64 0), .p (.sl 4 [[.i 5, .i 2, .k .u64 1, .i 3]] false)]] True (.p (.b true)) := ⟨fun _ => c8⟩
  clear c0 c1 c2 c3 c4 c5 c6 c7 c8
  as_aux_lemma =>
    repeat' (first | refine rnC ?_ | refine rnSB ?_ | refine rnG ?_ | refine rnU ?_ | ((fail_if_success (refine rnKn ?_)); refine rnP ?_ ?_ <;> (intro hq; try (have hq' := hq; simp only [hqs] at hq'))) | refine rkC ?_ | refine rkSB ?_ | refine rkF ?_ | refine rkU ?_ | ((fail_if_success (refine rkKn ?_)); refine rkP ?_ ?_ <;> (intro hq; try (have hq' := hq; simp only [hqs] at hq'))) | refine stp ?_ | refine ifT ?_ | refine ifF ?_ | (refine ifQ ?_ ?_ <;> (try (intro hn))) | (refine ifB ?_ ?_ <;> (intro hq; try (have hq' := hq; simp only [hqs] at hq'))))
    exact rt1 rfl rfl finS_p rfl
instance alive9_i : PC Tryz.prog 36 [] True (.p (.b true)) := ⟨fun _ => alive9_w⟩
end Go.Proofs.YtebjmleheiefdaaGreat.Ca
namespace Go.Proofs.YtebjmleheiefdaaGreat.Ca
open Go Go.RowKit Go.Aw Go.Aw.Cart Go.Aw.Ord Go.Sort
set_option linter.unusedVariables false
set_option linter.unusedSimpArgs false
set_option maxRecDepth 8000
set_option maxHeartbeats 8000000
/-- a remainder that is known -/
theorem lop_remr {C : Ctx} {o : Oper} {σ : St} {t t' : TypeId} {x y : Operand} {k : IntKind} {m n r : Int} (ho : o.op = .binOp .rem t x y t') (hx : σ.look x = .p (.v (.int k m))) (hy : σ.look y = .p (.v (.int k n))) (hr : m % n = r) (hm : 0 ≤ m) (hn : 1 ≤ n) (hd : dOk C o.dst = true) : LOp C o σ ⟨.p (.v (.int k r)), []⟩ (fun _ => false) := hr ▸ lop_rem' ho hx hy hd hm hn
/-- nine cells of a variable, from some place on -/
theorem lop_ld_c9 {C : Ctx} {o : Oper} {σ : St} {T : TypeId} {x : Operand} {k : TK} {sz by_ : Nat} {ob g off n : Nat} {ty : TypeId} {cs : List AC} {c0 c1 c2 c3 c4 c5 c6 c7 c8 : AC} (ho : o.op = .load T x) (hT : TI C.P T k sz by_) (hx : σ.look x = .o (.ptr ob g off)) (hm : σ.mem ob = (n, some (.box ty cs))) (hn : n = g + 1) (hk : k.agg = true) (hs : sz = 9) (hl : decide (off + 9 ≤ cs.length) = true) (hc : (cs.drop off).take 9 = [c0, c1, c2, c3, c4, c5, c6, c7, c8]) (hd : dOk C o.dst = true) :
    LOp C o σ ⟨.a [c0, c1, c2, c3, c4, c5, c6, c7, c8], []⟩ (fun y => y == ob) := by
  subst hs
  exact lop_ld_cells ho hT hx hm hn hk hl hc hd
/-- no events, written out: they grow from now on -/
theorem lop_bzX {C : Ctx} {o : Oper} {σ : St} {T e : TypeId} {sz by_ : Nat} {ke : TK} {es be : Nat} {z : List Value} {d n0 : Nat} {mo0 : Option MO} (ho : o.op = .buildSlice T 0 #[]) (hT : TI C.P T (.slice e) sz by_) (he : TI C.P e ke es be) (hz : TZ C.P e z) (hdst : o.dst = some d) (hm0 : σ.mem d = (n0, mo0)) (hes : es = 6) (hd : dOk C o.dst = true) :
    LOp C o σ ⟨.o (.osl d n0 6 0 ([] : List Evt).length), [(d, (n0 + 1, some (.buf e 6 (([] : List Evt).map xR))))]⟩ (fun q => q == d) := by subst hes; exact lop_bo0 ho hT he hz hdst hm0 (by decide) hd
theorem lop_st_at' {C : Ctx} {o : Oper} {σ : St} {T : TypeId} {x y : Operand} {k : TK} {sz by_ : Nat} {ob g off n : Nat} {ty : TypeId} {cs ds es : List AC} (ho : o.op = .store T x y) (hT : TI C.P T k sz by_) (hdst : o.dst = none) (hx : σ.look x = .o (.ptr ob g off)) (hy : σ.look y = .a ds)
    (hm : σ.mem ob = (n, some (.box ty cs))) (hn : n = g + 1) (hs : ds.length = sz) (hl : decide (off + sz ≤ cs.length) = true) (he : cs.take off ++ ds ++ cs.drop (off + sz) = es) :
    LOp C o σ ⟨.un, [(ob, (n, some (.box ty es)))]⟩ (fun z => z == ob) := by
  subst he; exact lop_store (s := .agg ds) ho hdst hx hy hm hn (of_decide_eq_true hl) hs
abbrev Stp := Bool × Int × Int × Op3
abbrev sR (s : Stp) : List PVal := [.b s.1, .k .u8 s.2.1, .k .u8 s.2.2.1, .i s.2.2.2.1, .i s.2.2.2.2.1, .i s.2.2.2.2.2]
namespace N2
theorem lopC {C : Ctx} {o : Oper} {σ : St} {e : Eff} {ro : Nat → Bool} (h : LOp C o σ e ro := by
    first | (apply lop_remr; (focus rfl); (focus rfl); (focus rfl); (focus assumption); (focus omega); (focus omega); (focus rfl)) | (apply gLoad; (focus rfl); apply lop_ld_c9; (focus rfl); (focus exact inferInstance); (focus rfl); (focus rfl); (focus rfl); (focus rfl); (focus rfl); (focus rfl); (focus rfl); (focus rfl)) | (apply lop_bzX; (focus rfl); (focus exact inferInstance); (focus exact inferInstance); (focus exact inferInstance); (focus rfl); (focus rfl); (focus rfl); (focus rfl)) | exact M4.lopC | fail) : LOp C o σ e ro := h
theorem stoE {C : Ctx} {o : Oper} {σ : St} {e : Eff} {ro : Nat → Bool} (h : LOp C o σ e ro := by
    first | (apply lop_st_at'; (focus rfl); (focus exact inferInstance); (focus rfl); (focus rfl); (focus rfl); (focus rfl); (focus rfl); (focus rfl); (focus rfl); (focus rfl)) | exact stoB | fail) : LOp C o σ e ro := h
section steps
variable {C : Ctx} {ops : Array Oper} {o : Oper} {rest : List Oper} {K : St → Prop} {σ : St} {e : Eff} {ro : Nat → Bool} {W : List (Nat × Nat)} {i : Nat}
theorem rnC {d : Nat} (hk : RunN C ops rest K (e.app (some d) σ)) (hg : Guard ops σ o true := by first | exact gd_n rfl rfl | exact gd_t rfl rfl rfl rfl | exact gd_t rfl rfl rfl (by assumption)) (hd : o.dst = some d := by rfl) (h : LOp C o σ e ro := by exact lopC) : RunN C ops (o :: rest) K σ := rn_any hg hd h hk
theorem rkC {d : Nat} (hk : RunK C ops W (i + 1) rest K (e.app (some d) σ)) (hg : Guard ops σ o true := by first | exact gd_n rfl rfl | exact gd_t rfl rfl rfl rfl | exact gd_t rfl rfl rfl (by assumption)) (hd' : o.dst = some d := by rfl) (hd : dOk C o.dst = true := by rfl) (h : LOp C o σ e ro := by exact lopC)
    (hro : ∀ x, ro x = true → okObj ops W i x = true := by first | exact fun _ => ro_none | exact ro_one rfl | exact ro_k1 rfl | exact ro_one (by kernel_rfl) | exact ro_k1 (by kernel_rfl) | exact ro_kIn (by decide)) (hob : ∀ p ∈ e.obj, (i, p.1) ∈ W := by first | exact ob_none | exact ob_one (by decide) | decide) : RunK C ops W i (o :: rest) K σ := rk_wr hg hd' hd h hro hob hk
end steps
section steps
variable {C : Ctx} {ops : Array Oper} {o : Oper} {rest : List Oper} {K : St → Prop} {σ : St} {e : Eff} {ro : Nat → Bool} {W : List (Nat × Nat)} {i : Nat}
theorem rnSE (hk : RunN C ops rest K (e.app none σ)) (hg : Guard ops σ o true := by first | exact gd_n rfl rfl | exact gd_t rfl rfl rfl rfl | exact gd_t rfl rfl rfl (by assumption)) (hd : o.dst = none := by rfl) (h : LOp C o σ e ro := by exact stoE) : RunN C ops (o :: rest) K σ := rn_sto hg hd h hk
theorem rkSE (hk : RunK C ops W (i + 1) rest K (e.app none σ)) (hg : Guard ops σ o true := by first | exact gd_n rfl rfl | exact gd_t rfl rfl rfl rfl | exact gd_t rfl rfl rfl (by assumption)) (hd' : o.dst = none := by rfl) (h : LOp C o σ e ro := by exact stoE)
    (hro : ∀ x, ro x = true → okObj ops W i x = true := by first | exact fun _ => ro_none | exact ro_one rfl | exact ro_one (by kernel_rfl) | exact ro_kIn (by decide)) (hob : ∀ p ∈ e.obj, (i, p.1) ∈ W := by first | exact ob_none | exact ob_one (by decide) | decide) : RunK C ops W i (o :: rest) K σ := rk_sto hg hd' h hro hob hk
end steps
end N2
open N2
theorem mod3 {n : Int} (h : 0 ≤ n) : n % 3 = 0 ∨ n % 3 = 1 ∨ n % 3 = 2 := by omega
abbrev J2 := Nat × Option MO
/-- what is left to show of a round, and that it is enough -/
def R9 : Σ' X : World → (Nat → Prop) → (Nat → Prop) → Mu → List Stp → Bool → (List Evt → Crt) → Nat → List Evt → List Evt → List Evt → Nat → Option MO → Nat → Option MO → Nat → Option MO → Nat → Option MO → Nat → Option MO → (Nat → AV) → (Nat → Nat × Option MO) → Prop,
    ∀ (l : List Stp) (ex : Bool) (hl : l.length ≤ maxLen) (hb : ∀ s ∈ l, 0 ≤ s.2.1 ∧ s.2.1 < 256 ∧ 0 ≤ s.2.2.1 ∧ s.2.2.1 < 256), (∀ (w0 : World) (F S0 : Nat → Prop) (M0 : Mu) (cf : List Evt → Crt) (i : Nat) (k0 k1 k2 : List Evt) (g8 : Nat) (m8 : Option MO) (g10 : Nat) (m10 : Option MO) (g11 : Nat) (m11 : Option MO) (g13 : Nat) (m13 : Option MO) (g87 : Nat) (m87 : Option MO) (β : Nat → AV) (γ : Nat → Nat × Option MO) (hcf : ∀ k, cf k = crt k) (hi4 : i ≤ 40) (hinv : Inv3 i k0 k1 k2) (hil : i < l.length) (hil4 : i < 40), X w0 F S0 M0 l ex cf i k0 k1 k2 g8 m8 g10 m10 g11 m11 g13 m13 g87 m87 β γ) →
      PCall Tryz.prog 6 [.p (.sl 6 (l.map sR) ex)] (.p (.b true)) := by
  apply PSigma.mk
  intro l ex hl hb HX
  refine pcall_of Tryz.func6 rfl (fun w0 F S0 M0 => ?_)
  have hl9 : l.length ≤ 9223372036854775807 := by simpa [maxLen] using hl
  obtain ⟨cf, hcf⟩ : ∃ cf : List Evt → Crt, ∀ k, cf k = crt k := ⟨crt, fun _ => rfl⟩
  have cf0 : cf [] = (zeroV, []) := (hcf []).trans crt_nil
  repeat' (first | refine rnC ?_ | refine rnSE ?_ | refine rnG ?_ | refine rnU ?_ | ((fail_if_success (refine rnKn ?_)); refine rnP ?_ ?_ <;> (intro hq; try (have hq' := hq; simp only [hqs] at hq'))) | refine rkC ?_ | refine rkSE ?_ | refine rkF ?_ | refine rkU ?_ | ((fail_if_success (refine rkKn ?_)); refine rkP ?_ ?_ <;> (intro hq; try (have hq' := hq; simp only [hqs] at hq'))) | refine stp ?_ | refine ifT ?_ | refine ifF ?_ | (refine ifQ ?_ ?_ <;> (try (intro hn))) | (refine ifB ?_ ?_ <;> (intro hq; try (have hq' := hq; simp only [hqs] at hq'))))
  refine aws_says (says_nils_at (p := 3) (k := 8) (es := 4) (ex := false) rfl rfl rfl) ?_
  refine aws_says (says_nils_at (p := 3) (k := 17) (es := 4) (ex := false) rfl rfl rfl) ?_
  refine aws_says (says_nils_at (p := 3) (k := 26) (es := 4) (ex := false) rfl rfl rfl) ?_
  refine aws_says (says_nils_at (p := 4) (k := 0) (es := 6) (ex := false) rfl rfl rfl) ?_
  refine aws_says (says_nils_at (p := 4) (k := 1) (es := 6) (ex := false) rfl rfl rfl) ?_
  refine aws_says (says_nils_at (p := 4) (k := 2) (es := 6) (ex := false) rfl rfl rfl) ?_
  refine aws_loopS [2, 5, 6, 7, 8, 9, 10, 11, 12, 13, 14, 15, 16, 17, 18, 19, 20, 21, 22, 23, 24, 25, 26, 27, 28, 29, 30, 31, 32, 33, 34, 35, 36, 37, 38, 39, 40, 41, 42, 43, 44, 45, 46, 47, 48, 49, 50, 51, 52, 53, 54, 55, 56, 57, 58, 59, 60, 61, 62, 63, 64, 65, 66, 67, 68, 69, 70, 71, 72, 73, 74, 75, 76, 77, 78, 79, 80, 81, 82, 83, 84, 85, 86, 87, 88, 89, 90, 91, 92, 93, 94, 95, 96, 97, 98, 99, 100, 101, 102, 103, 104, 105, 106, 107, 108, 109, 110, 111, 112, 113] [3, 4, 8, 10, 11, 13, 87] (fun (x : Nat × (List Evt × List Evt × List Evt) × J2 × J2 × J2 × J2 × J2) => [(5, .p (.i x.1))]) (fun x => [(3, (1, some (.box 63 ((cL (cf x.2.1.1).1 (cf x.2.1.1).2 false) ++ (cL (cf x.2.1.2.1).1 (cf x.2.1.2.1).2 false) ++ (cL (cf x.2.1.2.2).1 (cf x.2.1.2.2).2 false))))), (4, (1, some (.box 65 [.p (.sl 6 ((x.2.1.1).map xR) false), .p (.sl 6 ((x.2.1.2.1).map xR) false), .p (.sl 6 ((x.2.1.2.2).map xR) false)]))), (8, x.2.2.1), (10, x.2.2.2.1), (11, x.2.2.2.2.1), (13, x.2.2.2.2.2.1), (87, x.2.2.2.2.2.2)])
    (fun x => x.1 ≤ l.length ∧ x.1 ≤ 40 ∧ Inv3 x.1 x.2.1.1 x.2.1.2.1 x.2.1.2.2) (fun x => l.length - x.1) (0, ([], [], []), (0, none), (0, none), (0, none), (0, none), (0, none)) ⟨Nat.zero_le _, Nat.zero_le _, [], Nat.le_refl _, uq_nil, rp_nil 1, rp_nil 2, rp_nil 3⟩ (by exact knA) (by dsimp only; rw [cf0]; exact knA) ?_
  rintro ⟨i, ⟨k0, k1, k2⟩, ⟨g8, m8⟩, ⟨g10, m10⟩, ⟨g11, m11⟩, ⟨g13, m13⟩, ⟨g87, m87⟩⟩ β γ ⟨hi, hi4, hinv⟩
  simp only at hi hi4 hinv
  dsimp only
  by_cases hil : i < l.length
  case neg =>
    have d1 : decide ((i : Int) < (l.length : Int)) = false := decide_eq_false (by omega)
    as_aux_lemma =>
      repeat' (first | refine rnC ?_ | refine rnSE ?_ | refine rnG ?_ | refine rnU ?_ | ((fail_if_success (refine rnKn ?_)); refine rnP ?_ ?_ <;> (intro hq; try (have hq' := hq; simp only [hqs] at hq'))) | refine rkC ?_ | refine rkSE ?_ | refine rkF ?_ | refine rkU ?_ | ((fail_if_success (refine rkKn ?_)); refine rkP ?_ ?_ <;> (intro hq; try (have hq' := hq; simp only [hqs] at hq'))) | refine stp ?_ | refine ifT ?_ | refine ifF ?_ | (refine ifQ ?_ ?_ <;> (try (intro hn))) | (refine ifB ?_ ?_ <;> (intro hq; try (have hq' := hq; simp only [hqs] at hq'))))
      exact rt1 rfl rfl finS_p rfl
  have d1 : decide ((i : Int) < (l.length : Int)) = true := decide_eq_true (by omega)
  by_cases hil4 : i < 40
  case neg =>
    have d2 : decide ((i : Int) < 40) = false := decide_eq_false (by omega)
    as_aux_lemma =>
      repeat' (first | refine rnC ?_ | refine rnSE ?_ | refine rnG ?_ | refine rnU ?_ | ((fail_if_success (refine rnKn ?_)); refine rnP ?_ ?_ <;> (intro hq; try (have hq' := hq; simp only [hqs] at hq'))) | refine rkC ?_ | refine rkSE ?_ | refine rkF ?_ | refine rkU ?_ | ((fail_if_success (refine rkKn ?_)); refine rkP ?_ ?_ <;> (intro hq; try (have hq' := hq; simp only [hqs] at hq'))) | refine stp ?_ | refine ifT ?_ | refine ifF ?_ | (refine ifQ ?_ ?_ <;> (try (intro hn))) | (refine ifB ?_ ?_ <;> (intro hq; try (have hq' := hq; simp only [hqs] at hq'))))
      exact rt1 rfl rfl finS_p rfl
  have d2 : decide ((i : Int) < 40) = true := decide_eq_true (by omega)
  exact HX w0 F S0 M0 cf i k0 k1 k2 g8 m8 g10 m10 g11 m11 g13 m13 g87 m87 β γ hcf hi4 hinv hil hil4
end Go.Proofs.YtebjmleheiefdaaGreat.Ca
