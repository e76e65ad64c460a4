/- joins, the laws: JoinAll -/
import Derived.Test.YtpmobjnaiaogbaaCj5
import Derived.Test.YtpmobjnaiaogbaaCr5
namespace Go.Proofs.Ytpmobjnaiaogbaa.Cu
open Go Go.RowKit Go.Aw Go.Aw.Cart Go.Aw.Ord Go.Proofs.Ytpmobjnaiaogbaa.Ca
set_option linter.unusedVariables false
set_option linter.unusedSimpArgs false
set_option maxRecDepth 8000
set_option maxHeartbeats 4000000
/-- one cart, to an own slice of carts -/
theorem lop_ap_cart {C : Ctx} {o : Oper} {σ : St} {T e : TypeId} {x y : Operand} {sz by_ es be : Nat} {ke : TK} {l : List Crt} {z : List Value} {ey : Bool} {ob g n len : Nat} {v : List Int} {m : List Ent} (ho : o.op = .call ⟨.builtin .append, #[x, y], #[T, T]⟩) (hT : TI C.P T (.slice e) sz by_) (he : TI C.P e ke es be) (hz : TZ C.P e z) (hx : σ.look x = .o (.osl ob g es 0 len)) (hm : σ.mem ob = (n, some (.buf e es (l.map cRw)))) (hn : n = g + 1) (hlr : len = l.length)
    (hy : σ.look y = .p (.sl es [cR v m false] ey)) (hzl : z.length = es) (h63 : l.length + 1 ≤ maxLen) (hby : (l.length + 1) * be ≤ 140737488355328) (hd : dOk C o.dst = true) :
    LOp C o σ ⟨.o (.osl ob n es 0 (l ++ [(v, m)]).length), [(ob, (n + 1, some (.buf e es ((l ++ [(v, m)]).map cRw))))]⟩ (fun q => q == ob) := lop_ap_o1 (f := cRw) (v := (v, m)) ho hT he hz hx hm hn hlr hy rfl hzl h63 hby hd
theorem lopC {C : Ctx} {o : Oper} {σ : St} {e : Eff} {ro : Nat → Bool} (h : LOp C o σ e ro := by
    first
      | (apply lop_ap_cart; (focus rfl); (focus exact inferInstance); (focus exact inferInstance); (focus exact inferInstance); (focus rfl); (focus rfl); (focus rfl); (focus rfl); (focus rfl); (focus rfl); (focus first | (simp only [maxLen, List.length_append, List.length_cons, List.length_nil, List.length_take, List.length_drop, List.length_map]; omega) | omega); (focus first | (simp only [maxLen, List.length_append, List.length_cons, List.length_nil, List.length_take, List.length_drop, List.length_map]; omega) | omega); (focus rfl))
      | (apply gField; (focus rfl); first | exact lop_fieldAddr_p rfl rfl (by decide) rfl rfl | exact lop_fieldAddr_bx rfl rfl (by decide) rfl rfl)
            | (apply lop_bsa; (focus rfl); (focus exact inferInstance); (focus exact inferInstance); (focus exact inferInstance); (focus repeat' (first | exact All2.nil | (apply bs_cons; (focus rfl); (focus rfl); (focus rfl)))); (focus rfl); (focus decide); (focus first | decide | omega); (focus rfl); (focus rfl))
            | (apply lop_mfa1; (focus rfl); (focus rfl); (focus rfl); (focus rfl); (focus rfl); (focus rfl))
            | (apply lop_mfa2; (focus rfl); (focus rfl); (focus rfl); (focus rfl); (focus rfl); (focus rfl); (focus rfl); (focus rfl); (focus rfl); (focus decide); (focus rfl))
            | (apply lop_mfa3; (focus rfl); (focus rfl); (focus rfl); (focus rfl); (focus rfl); (focus rfl); (focus rfl); (focus rfl); (focus rfl); (focus rfl); (focus rfl); (focus rfl); (focus rfl); (focus decide); (focus decide); (focus decide); (focus rfl))
            | (apply gLoad; (focus rfl); apply lop_ld_bxp; (focus rfl); (focus exact inferInstance); (focus rfl); (focus rfl); (focus rfl); (focus rfl); (focus rfl))
      | (apply gLoad; (focus rfl); apply lop_ld_atn; (focus rfl); (focus exact inferInstance); (focus rfl); (focus rfl); (focus decide); (focus rfl); (focus repeat' (first | exact All2.nil | (apply All2.cons; (focus rfl)))); (focus rfl))
      | exact lopV
      | (apply lop_call1; (focus rfl); (focus exact inferInstance); (focus exact lk_cart rfl); (focus exact inferInstance); (focus exact inferInstance); (focus first | exact True.intro | assumption | rfl | omega | ((repeat' (first | assumption | refine And.intro ?_ ?_ | omega | rfl)); done) | fail); (focus rfl))
            | (apply lop_call2; (focus rfl); (focus exact inferInstance); (focus exact lk_cart rfl); (focus exact lk_cart rfl); (focus exact inferInstance); (focus exact inferInstance); (focus first | exact True.intro | assumption | rfl | omega | ((repeat' (first | assumption | refine And.intro ?_ ?_ | omega | rfl)); done) | fail); (focus rfl))
            | (apply lop_call2; (focus rfl); (focus exact inferInstance); (focus exact lk_cart rfl); (focus first | exact lk_m1 rfl | exact lk_m2 rfl | exact lk_m3 rfl | exact lk_o rfl | exact lk_a2 rfl | exact lk_a3 rfl | exact lk_a4 rfl | exact lk_a1 rfl | exact lk_a5 rfl | exact lk_a6 rfl | exact lk_a7 rfl | exact lk_a8 rfl | exact lk_a rfl); (focus exact inferInstance); (focus exact inferInstance); (focus first | exact True.intro | assumption | rfl | omega | ((repeat' (first | assumption | refine And.intro ?_ ?_ | omega | rfl)); done) | fail); (focus rfl))
      | fail) : LOp C o σ e ro := h
section steps
variable {C : Ctx} {ops : Array Oper} {o : Oper} {rest : List Oper} {K : St → Prop} {σ : St} {e : Eff} {ro : Nat → Bool} {W : List (Nat × Nat)} {i : Nat}
theorem rnC {d : Nat} (hk : RunN C ops rest K (e.app (some d) σ)) (hg : Guard ops σ o true := by first | exact gd_n rfl rfl | exact gd_t rfl rfl rfl rfl | exact gd_t rfl rfl rfl (by assumption)) (hd : o.dst = some d := by rfl) (h : LOp C o σ e ro := by exact lopC) : RunN C ops (o :: rest) K σ := rn_any hg hd h hk
theorem rkC {d : Nat} (hk : RunK C ops W (i + 1) rest K (e.app (some d) σ)) (hg : Guard ops σ o true := by first | exact gd_n rfl rfl | exact gd_t rfl rfl rfl rfl | exact gd_t rfl rfl rfl (by assumption)) (hd' : o.dst = some d := by rfl) (hd : dOk C o.dst = true := by rfl) (h : LOp C o σ e ro := by exact lopC)
    (hro : ∀ x, ro x = true → okObj ops W i x = true := by first | exact fun _ => ro_none | exact ro_one rfl | exact ro_one (by kernel_rfl) | exact ro_kIn (by decide)) (hob : ∀ p ∈ e.obj, (i, p.1) ∈ W := by first | exact ob_none | exact ob_one (by decide) | decide) : RunK C ops W i (o :: rest) K σ := rk_wr hg hd' hd h hro hob hk
end steps
theorem joinAll_w (l : List Crt) (ex : Bool) (h8 : ∀ x ∈ l, x.1.length = 8 ∧ ∀ n ∈ x.1, 0 ≤ n) (hl : l.length ≤ maxLen) : PCall Try.prog 4 [.p (.sl 9 (l.map cRw) ex)] (.p (.b true)) := by
  refine pcall_of Try.func4 rfl (fun w0 F S0 M0 => ?_)
  have hl9 : l.length ≤ 9223372036854775807 := by simpa [maxLen] using hl
  repeat' (first
      | refine rnC ?_
      | refine rnSB ?_
      | refine rnG ?_
      | refine rnU ?_
      | ((fail_if_success (refine rnKn ?_)); refine rnP ?_ ?_ <;> (intro hq; try (have hq' := hq; simp only [hqs] at hq')))
      | refine rkC ?_
      | refine rkSB ?_
      | refine rkF ?_
      | refine rkU ?_
      | ((fail_if_success (refine rkKn ?_)); refine rkP ?_ ?_ <;> (intro hq; try (have hq' := hq; simp only [hqs] at hq')))
      | refine stp ?_
      | refine ifT ?_
      | refine ifF ?_
      | (refine ifQ ?_ ?_ <;> (try (intro hn)))
      | (refine ifB ?_ ?_ <;> (intro hq; try (have hq' := hq; simp only [hqs] at hq'))))
  refine aws_says (says_nil (t := 3) (o := 903) (ty := 37) (es := 9) rfl rfl (by decide)) ?_
  refine aws_loopS [2, 3, 4, 9, 10, 11, 12, 13, 14, 15, 16, 17, 18, 19, 20, 21, 22, 23, 24, 25, 26, 27, 28, 29, 30, 31, 32, 33] [903] (fun (x : Nat × List Crt) => [(4, .p (.i x.1)), (3, .o (.osl 903 x.1 9 0 x.2.length))]) (fun x => [(903, (x.1 + 1, some (.buf 37 9 (x.2.map cRw))))])
    (fun x => x.1 ≤ l.length ∧ x.2 = l.take x.1 ∧ (0 < x.1 → l.length ≤ 8) ∧ ∀ y ∈ l.take x.1, y.2.length ≤ 60) (fun x => l.length - x.1) (0, []) ⟨Nat.zero_le _, rfl, fun h => absurd h (Nat.lt_irrefl _), fun y hy => (by cases hy)⟩ (by exact knA) (by exact knA) ?_
  rintro ⟨i, m⟩ β γ ⟨hi, hm, h0, hs⟩
  simp only at hi hm h0 hs
  have hml : m.length = i := by rw [hm, List.length_take]; omega
  dsimp only
  by_cases hil : i < l.length
  · have hd : decide ((i : Int) < (l.length : Int)) = true := decide_eq_true (by omega)
    by_cases h9 : 8 < l.length
    · have d1 : decide (8 < (l.length : Int)) = true := decide_eq_true (by omega)
      as_aux_lemma =>
        repeat' (first
            | refine rnC ?_
            | refine rnSB ?_
            | refine rnG ?_
            | refine rnU ?_
            | ((fail_if_success (refine rnKn ?_)); refine rnP ?_ ?_ <;> (intro hq; try (have hq' := hq; simp only [hqs] at hq')))
            | refine rkC ?_
            | refine rkSB ?_
            | refine rkF ?_
            | refine rkU ?_
            | ((fail_if_success (refine rkKn ?_)); refine rkP ?_ ?_ <;> (intro hq; try (have hq' := hq; simp only [hqs] at hq')))
            | refine stp ?_
            | refine aws_draws [] mixed (by kernel_rfl) ?_
            | refine ifT ?_
            | refine ifF ?_
            | (refine ifQ ?_ ?_ <;> (try (intro hn)))
            | (refine ifB ?_ ?_ <;> (intro hq; try (have hq' := hq; simp only [hqs] at hq'))))
        exact rt1 rfl rfl finS_p rfl
    · have d1 : decide (8 < (l.length : Int)) = false := decide_eq_false (by omega)
      have ei : (i : Int).toNat = i := Int.toNat_natCast i
      by_cases hg : 60 < (l.getD (i : Int).toNat default).2.length
      · have d2 : decide (60 < ((l.getD (i : Int).toNat default).2.length : Int)) = true := decide_eq_true (by omega)
        as_aux_lemma =>
          repeat' (first
              | refine rnC ?_
              | refine rnSB ?_
              | refine rnG ?_
              | refine rnU ?_
              | ((fail_if_success (refine rnKn ?_)); refine rnP ?_ ?_ <;> (intro hq; try (have hq' := hq; simp only [hqs] at hq')))
              | refine rkC ?_
              | refine rkSB ?_
              | refine rkF ?_
              | refine rkU ?_
              | ((fail_if_success (refine rkKn ?_)); refine rkP ?_ ?_ <;> (intro hq; try (have hq' := hq; simp only [hqs] at hq')))
              | refine stp ?_
              | refine aws_draws [] mixed (by kernel_rfl) ?_
              | refine ifT ?_
              | refine ifF ?_
              | (refine ifQ ?_ ?_ <;> (try (intro hn)))
              | (refine ifB ?_ ?_ <;> (intro hq; try (have hq' := hq; simp only [hqs] at hq'))))
          exact rt1 rfl rfl finS_p rfl
      · have d2 : decide (60 < ((l.getD (i : Int).toNat default).2.length : Int)) = false := decide_eq_false (by omega)
        have ca := Cr.as_r (l.getD (i : Int).toNat default).1 (l.getD (i : Int).toNat default).2 false (by omega)
        haveI : PC Try.prog 19 [cV (l.getD (i : Int).toNat default).1 (l.getD (i : Int).toNat default).2 false] True (cV (l.getD (i : Int).toNat default).1 (l.getD (i : Int).toNat default).2 false) := ⟨fun _ => ca⟩
        repeat' (first
            | refine rnC ?_
            | refine rnSB ?_
            | refine rnG ?_
            | refine rnU ?_
            | ((fail_if_success (refine rnKn ?_)); refine rnP ?_ ?_ <;> (intro hq; try (have hq' := hq; simp only [hqs] at hq')))
            | refine rkC ?_
            | refine rkSB ?_
            | refine rkF ?_
            | refine rkU ?_
            | ((fail_if_success (refine rkKn ?_)); refine rkP ?_ ?_ <;> (intro hq; try (have hq' := hq; simp only [hqs] at hq')))
            | refine stp ?_
            | refine aws_draws [] mixed (by kernel_rfl) ?_
            | refine ifT ?_
            | refine ifF ?_
            | (refine ifQ ?_ ?_ <;> (try (intro hn)))
            | (refine ifB ?_ ?_ <;> (intro hq; try (have hq' := hq; simp only [hqs] at hq'))))
        refine ⟨(i + 1, m ++ [((l.getD (i : Int).toNat default).1, (l.getD (i : Int).toNat default).2)]), _, by dsimp only; omega, ⟨by dsimp only; omega, ?_, fun _ => by omega, ?_⟩, .refl, by exact frA⟩
        · dsimp only
          rw [hm, take_get' hil, ei]
        · dsimp only
          rw [take_get' hil]
          intro y hy
          rcases List.mem_append.1 hy with k | k
          · exact hs y k
          · obtain rfl := List.mem_singleton.1 k
            rw [ei] at hg; omega
  · have hd : decide ((i : Int) < (l.length : Int)) = false := decide_eq_false (by omega)
    have e1 : l.take i = l := List.take_of_length_le (by omega)
    rw [e1] at hm hs
    subst hm
    have hl8 : m.length ≤ 1000000 := by
      by_cases k : 0 < i
      · have := h0 k; omega
      · omega
    have c1 := all_w m ex hl8 fun x hx => ⟨(h8 x hx).1, (h8 x hx).2, by have := hs x hx; omega⟩
    have c2 := Cs.all_r m false hl8 fun x hx => ⟨(h8 x hx).1, (h8 x hx).2, by have := hs x hx; omega⟩
    have j8 : (allF m m.length).1.1.length = 8 := by
      have key : ∀ k, k ≤ m.length → (allF m k).1.1.length = 8 := by
        intro k
        induction k with
        | zero => intro _; rfl
        | succ k ih =>
          intro hk
          have hx : (m.getD k default).1.length = 8 := by rw [getD_at (by omega)]; exact (h8 _ (List.getElem_mem _)).1
          rw [allF]
          split
          · split
            · exact two_len8 (ih (by omega)) hx
            · rfl
          · exact ih (by omega)
      exact key _ (Nat.le_refl _)
    have jf : (allF m m.length).1.2.length ≤ 400 := by
      have key : ∀ k, (allF m k).1.2.length ≤ 400 := by
        intro k
        induction k with
        | zero => simp [allF]
        | succ k ih =>
          rw [allF]
          split
          · split
            · exact two_few
            · simp
          · exact ih
      exact key _
    generalize allF m m.length = r at c1 c2 j8 jf
    obtain ⟨⟨jv, jl⟩, c⟩ := r
    dsimp only at c1 c2 j8 jf
    have c3 := Cr.as_r jv jl false (by omega)
    have c4 := Cr.same_r jv jv jl jl false false j8 j8 (by omega)
    rw [show sameF jv jv jl jl = true by simp [sameF]] at c4
    haveI : PC Try.prog 20 [.p (.sl 9 (m.map cRw) ex)] True (.tup [.agg (cL jv jl false), .one (.p (.i c))]) := ⟨fun _ => c1⟩
    haveI : PC Try.prog 21 [.p (.sl 9 (m.map cRw) false)] True (.tup [.agg (cL jv jl false), .one (.p (.i c))]) := ⟨fun _ => c2⟩
    haveI : PC Try.prog 19 [cV jv jl false] True (cV jv jl false) := ⟨fun _ => c3⟩
    haveI : PC Try.prog 22 [cV jv jl false, cV jv jl false] True (.p (.b true)) := ⟨fun _ => c4⟩
    have ec : decide (c = c) = true := decide_eq_true rfl
    clear c1 c2 c3 c4
    refine aws_says (says_frz (t := 3) (o := 903) rfl rfl rfl (by simp)) ?_
    as_aux_lemma =>
      repeat' (first
          | refine rnC ?_
          | refine rnSB ?_
          | refine rnG ?_
          | refine rnU ?_
          | ((fail_if_success (refine rnKn ?_)); refine rnP ?_ ?_ <;> (intro hq; try (have hq' := hq; simp only [hqs] at hq')))
          | refine rkC ?_
          | refine rkSB ?_
          | refine rkF ?_
          | refine rkU ?_
          | ((fail_if_success (refine rkKn ?_)); refine rkP ?_ ?_ <;> (intro hq; try (have hq' := hq; simp only [hqs] at hq')))
          | refine stp ?_
          | refine aws_draws [] mixed (by kernel_rfl) ?_
          | refine ifT ?_
          | refine ifF ?_
          | (refine ifQ ?_ ?_ <;> (try (intro hn)))
          | (refine ifB ?_ ?_ <;> (intro hq; try (have hq' := hq; simp only [hqs] at hq'))))
      exact rt1 rfl rfl finS_p (rb ec.symm)
end Go.Proofs.Ytpmobjnaiaogbaa.Cu
