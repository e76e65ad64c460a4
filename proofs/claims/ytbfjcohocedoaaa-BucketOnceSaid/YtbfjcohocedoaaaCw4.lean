/- wire: readers of bytes, a writer's bytes; small numbers -/
import Derived.Test.YtbfjcohocedoaaaCw3
import Derived.Test.YtbfjcohocedoaaaKg
namespace Go.Proofs.Ytbfjcohocedoaaa.Wi
open Go Go.RowKit Go.Aw
set_option linter.unusedVariables false
set_option linter.unusedSimpArgs false
set_option maxRecDepth 8000
set_option maxHeartbeats 4000000
theorem lop_max_l {C : Ctx} {o : Oper} {σ : St} {x y : Operand} {T1 T2 : TypeId} {k : IntKind} {m n : Int} (ho : o.op = .call ⟨.builtin .max, #[x, y], #[T1, T2]⟩) (hx : σ.look x = .p (.v (.int k m))) (hy : σ.look y = .p (.v (.int k n))) (h : n ≤ m) (hd : dOk C o.dst = true) : LOp C o σ ⟨.p (.v (.int k m)), []⟩ (fun _ => false) := by
  have := lop_max ho hx hy hd
  rwa [if_neg (by omega)] at this
theorem lop_max_r {C : Ctx} {o : Oper} {σ : St} {x y : Operand} {T1 T2 : TypeId} {k : IntKind} {m n : Int} (ho : o.op = .call ⟨.builtin .max, #[x, y], #[T1, T2]⟩) (hx : σ.look x = .p (.v (.int k m))) (hy : σ.look y = .p (.v (.int k n))) (h : m < n) (hd : dOk C o.dst = true) : LOp C o σ ⟨.p (.v (.int k n)), []⟩ (fun _ => false) := by
  have := lop_max ho hx hy hd
  rwa [if_pos (by omega)] at this
namespace W4
theorem lopC {C : Ctx} {o : Oper} {σ : St} {e : Eff} {ro : Nat → Bool} (h : LOp C o σ e ro := by
    first
      | (apply lop_max_l; (focus rfl); (focus rfl); (focus rfl); (focus omega); (focus rfl))
      | (apply lop_max_r; (focus rfl); (focus rfl); (focus rfl); (focus omega); (focus rfl))
      | (apply lop_osl_eqnil; (focus rfl); (focus exact inferInstance); (focus rfl); (focus exact ⟨_, _, _, rfl, rfl⟩); (focus rfl); (focus rfl))
      | (apply lop_ap_exo; (focus rfl); (focus exact inferInstance); (focus exact inferInstance); (focus exact inferInstance); (focus rfl); (focus rfl); (focus rfl); (focus rfl); (focus rfl); (focus rfl); (focus first | (simp only [maxLen, List.length_append, List.length_cons, List.length_nil, List.length_take, List.length_drop, List.length_map]; omega) | omega); (focus first | (simp only [maxLen, List.length_append, List.length_cons, List.length_nil, List.length_take, List.length_drop, List.length_map]; omega) | omega); (focus rfl))
      | exact W2.lopC
      | fail) : LOp C o σ e ro := h
section steps
variable {C : Ctx} {ops : Array Oper} {o : Oper} {rest : List Oper} {K : St → Prop} {σ : St} {e : Eff} {ro : Nat → Bool} {W : List (Nat × Nat)} {i : Nat}
theorem rnC {d : Nat} (hk : RunN C ops rest K (e.app (some d) σ)) (hg : Guard ops σ o true := by first | exact gd_n rfl rfl | exact gd_t rfl rfl rfl rfl | exact gd_t rfl rfl rfl (by assumption)) (hd : o.dst = some d := by rfl) (h : LOp C o σ e ro := by exact lopC) : RunN C ops (o :: rest) K σ := rn_any hg hd h hk
theorem rkC {d : Nat} (hk : RunK C ops W (i + 1) rest K (e.app (some d) σ)) (hg : Guard ops σ o true := by first | exact gd_n rfl rfl | exact gd_t rfl rfl rfl rfl | exact gd_t rfl rfl rfl (by assumption)) (hd' : o.dst = some d := by rfl) (hd : dOk C o.dst = true := by rfl) (h : LOp C o σ e ro := by exact lopC)
    (hro : ∀ x, ro x = true → okObj ops W i x = true := by first | exact fun _ => ro_none | exact ro_one rfl | exact ro_k1 rfl | exact ro_one (by kernel_rfl) | exact ro_k1 (by kernel_rfl) | exact ro_kIn (by decide)) (hob : ∀ p ∈ e.obj, (i, p.1) ∈ W := by first | exact ob_none | exact ob_one (by decide) | decide) : RunK C ops W i (o :: rest) K σ := rk_wr hg hd' hd h hro hob hk
end steps
end W4
open W4
/-- bytes, copied -/
theorem cloneB_w (l : List Nat) (ex : Bool) (h : l.length ≤ 1000000000) : PCall Try.prog 61 [.p (.sl 1 (l.map bR) ex)] (.p (.sl 1 (l.map bR) false)) := by
  refine pcall_of Try.func61 rfl (fun w0 F S0 M0 => ?_)
  as_aux_lemma =>
    repeat' (first
        | refine rnC ?_
        | refine rnSB ?_
        | refine rnG ?_
        | refine rnU ?_
        | ((fail_if_success (refine rnKn ?_)); refine rnP ?_ ?_ <;> (intro hq; try (have hq' := hq; simp only [hqs] at hq')))
        | refine rkC ?_
        | refine rkSB ?_
        | refine rkF ?_
        | refine rkU ?_
        | ((fail_if_success (refine rkKn ?_)); refine rkP ?_ ?_ <;> (intro hq; try (have hq' := hq; simp only [hqs] at hq')))
        | refine stp ?_
        | refine ifT ?_
        | refine ifF ?_
        | (refine ifQ ?_ ?_ <;> (try (intro hn)))
        | (refine ifB ?_ ?_ <;> (intro hq; try (have hq' := hq; simp only [hqs] at hq'))))
    · have e : l = [] := List.eq_nil_of_length_eq_zero (by have := congrArg List.length hn; rwa [List.length_map, List.length_nil] at this)
      subst e
      exact rt1 rfl rfl (.one .nil) rfl
    · exact rt1 rfl rfl finS_p rfl
instance cloneB_i {l : List Nat} {ex : Bool} : PC Try.prog 61 [.p (.sl 1 (l.map bR) ex)] (l.length ≤ 1000000000) (.p (.sl 1 (l.map bR) false)) := ⟨cloneB_w l ex⟩
theorem cloneO_o (n : Nat) (l : List Nat) (h : l.length ≤ 1000000000) : OCall Try.prog 61 [.o (.osl 1000 n 1 0 l.length)] (memL [(1000, (n + 1, some (.buf 5 1 (l.map bR))))]) (.p (.sl 1 (l.map bR) false)) (memL [(1000, (n + 1, some (.buf 5 1 (l.map bR))))]) := by
  refine ocall_of1 Try.func61 rfl (fun w0 F S0 M0 => ?_)
  as_aux_lemma =>
    repeat' (first
        | refine rnC ?_
        | refine rnSB ?_
        | refine rnG ?_
        | refine rnU ?_
        | ((fail_if_success (refine rnKn ?_)); refine rnP ?_ ?_ <;> (intro hq; try (have hq' := hq; simp only [hqs] at hq')))
        | refine rkC ?_
        | refine rkSB ?_
        | refine rkF ?_
        | refine rkU ?_
        | ((fail_if_success (refine rkKn ?_)); refine rkP ?_ ?_ <;> (intro hq; try (have hq' := hq; simp only [hqs] at hq')))
        | refine stp ?_
        | refine ifT ?_
        | refine ifF ?_
        | (refine ifQ ?_ ?_ <;> (try (intro hn)))
        | (refine ifB ?_ ?_ <;> (intro hq; try (have hq' := hq; simp only [hqs] at hq'))))
    · have e : l = [] := List.eq_nil_of_length_eq_zero hn
      subst e
      exact RetO.mk (ot1 rfl rfl (.one .nil) rfl) ⟨.buf, trivial⟩
    · exact RetO.mk (ot1 rfl rfl finS_p rfl) ⟨.buf, trivial⟩
instance cloneO_i {c g n : Nat} {l : List Nat} : OC Try.prog 61 [.o (.osl c g 1 0 l.length)] [(c, (n, some (.buf 5 1 (l.map bR))))] [] (n = g + 1 ∧ l.length ≤ 1000000000) (.p (.sl 1 (l.map bR) false)) [(c, (n, some (.buf 5 1 (l.map bR))))] := ⟨fun h => by obtain ⟨rfl, h⟩ := h; exact (cloneO_o g l h).one c⟩
theorem from_o (l : List Nat) (ex : Bool) (h : l.length ≤ 1000000000) : OCall Try.prog 38 [.p (.sl 1 (l.map bR) ex)] (fun _ => (0, none)) (.o (.ptr 6 0 0)) (memL [(6, (1, some (rdM (l, 0))))]) := by
  refine ocall_ofF 6 Try.func38 rfl (fun w0 F S0 M0 => ?_)
  as_aux_lemma =>
    repeat' (first
        | refine rnC ?_
        | refine rnSB ?_
        | refine rnG ?_
        | refine rnU ?_
        | ((fail_if_success (refine rnKn ?_)); refine rnP ?_ ?_ <;> (intro hq; try (have hq' := hq; simp only [hqs] at hq')))
        | refine rkC ?_
        | refine rkSB ?_
        | refine rkF ?_
        | refine rkU ?_
        | ((fail_if_success (refine rkKn ?_)); refine rkP ?_ ?_ <;> (intro hq; try (have hq' := hq; simp only [hqs] at hq')))
        | refine stp ?_
        | refine ifT ?_
        | refine ifF ?_
        | (refine ifQ ?_ ?_ <;> (try (intro hn)))
        | (refine ifB ?_ ?_ <;> (intro hq; try (have hq' := hq; simp only [hqs] at hq'))))
    exact RetO.mk (ot1 rfl rfl (.one (.kptr rfl)) rfl) ⟨.box finL_p, trivial⟩
instance from_i {c k : Nat} {l : List Nat} {ex : Bool} : OC Try.prog 38 [.p (.sl 1 (l.map bR) ex)] [] [(c, k)] (l.length ≤ 1000000000) (.o (.ptr c k 0)) [(c, (k + 1, some (rdM (l, 0))))] := ⟨fun h => (from_o l ex h).fresh1 c k⟩
theorem bytes_o (n : Nat) (bs : List Nat) (h : bs.length ≤ 1000000000) : OCall Try.prog 37 [.o (.ptr 1000 n 0)] (memL [(1000, (n + 1, some (.abs (wrA bs))))]) (.p (.sl 1 (bs.map bR) false)) (memL [(1000, (n + 1, some (.abs (wrA bs))))]) := by
  refine ocall_of1 Try.func37 rfl (fun w0 F S0 M0 => ?_)
  refine aws_says (says_unpack' (p := 1000) (o := 901) rfl rfl (List.length_map _) rfl (by decide)) ?_
  repeat' (first
      | refine rnC ?_
      | refine rnSB ?_
      | refine rnG ?_
      | refine rnU ?_
      | ((fail_if_success (refine rnKn ?_)); refine rnP ?_ ?_ <;> (intro hq; try (have hq' := hq; simp only [hqs] at hq')))
      | refine rkC ?_
      | refine rkSB ?_
      | refine rkF ?_
      | refine rkU ?_
      | ((fail_if_success (refine rkKn ?_)); refine rkP ?_ ?_ <;> (intro hq; try (have hq' := hq; simp only [hqs] at hq')))
      | refine stpR ?_
      | refine ifT ?_
      | refine ifF ?_
      | (refine ifQ ?_ ?_ <;> (try (intro hn)))
      | (refine ifB ?_ ?_ <;> (intro hq; try (have hq' := hq; simp only [hqs] at hq'))))
  refine aws_says (says_pack (p := 1000) (o := 901) (pre := []) (post := []) rfl rfl rfl rfl (by rw [List.length_map]) (by decide)) ?_
  as_aux_lemma =>
    repeat' (first
        | refine rnC ?_
        | refine rnSB ?_
        | refine rnG ?_
        | refine rnU ?_
        | ((fail_if_success (refine rnKn ?_)); refine rnP ?_ ?_ <;> (intro hq; try (have hq' := hq; simp only [hqs] at hq')))
        | refine rkC ?_
        | refine rkSB ?_
        | refine rkF ?_
        | refine rkU ?_
        | ((fail_if_success (refine rkKn ?_)); refine rkP ?_ ?_ <;> (intro hq; try (have hq' := hq; simp only [hqs] at hq')))
        | refine stp ?_
        | refine ifT ?_
        | refine ifF ?_
        | (refine ifQ ?_ ?_ <;> (try (intro hn)))
        | (refine ifB ?_ ?_ <;> (intro hq; try (have hq' := hq; simp only [hqs] at hq'))))
    exact RetO.mk (ot1 rfl rfl finS_p rfl) ⟨.abs, trivial⟩
instance bytes_i {c g n : Nat} {bs : List Nat} : OC Try.prog 37 [.o (.ptr c g 0)] [(c, (n, some (.abs (wrA bs))))] [] (n = g + 1 ∧ bs.length ≤ 1000000000) (.p (.sl 1 (bs.map bR) false)) [(c, (n, some (.abs (wrA bs))))] := ⟨fun h => by obtain ⟨rfl, h⟩ := h; exact (bytes_o g bs h).one c⟩
theorem small_o (n : Nat) (r : RS) (most : Int) (hm : most ≤ 9223372036854775807) (hb : ∀ b ∈ r.1, b < 256) (hl : r.1.length ≤ 1000000000) : OCall Try.prog 56 [.o (.ptr 1000 n 0), .p (.i most)] (memL [(1000, (n + 1, some (rdM r)))]) (.p (.i (smallS most r).1)) (memL [(1000, (n + 1, some (rdM (smallS most r).2)))]) := by
  refine ocall_of1 Try.func56 rfl (fun w0 F S0 M0 => ?_)
  have hf := numS_fit hb
  unfold smallS
  by_cases h0 : 0 ≤ most
  · obtain ⟨q, rfl⟩ : ∃ q : Nat, most = q := ⟨most.toNat, by omega⟩
    have d1 : decide (0 ≤ (q : Int)) = true := decide_eq_true h0
    have e : (decide (0 ≤ (q : Int)) && decide (((numS r).1 : Int) ≤ (q : Int))) = decide (((numS r).1 : Int) ≤ ((q % md .u64 : Nat) : Int)) := by
      rw [d1, Bool.true_and, Nat.mod_eq_of_lt (by show q < 18446744073709551616; omega)]
    rw [e]
    by_cases hz : (mustS (decide (((numS r).1 : Int) ≤ ((q % md .u64 : Nat) : Int))) (numS r).2).2 = 0
    · have d2 : decide ((mustS (decide (((numS r).1 : Int) ≤ ((q % md .u64 : Nat) : Int))) (numS r).2).2 ≠ 0) = false := decide_eq_false fun k => k hz
      have hle : ((numS r).1 : Int) ≤ (q : Int) := by
        have hz' := hz
        unfold mustS at hz'
        by_cases k : ((numS r).1 : Int) ≤ ((q % md .u64 : Nat) : Int)
        · rw [Nat.mod_eq_of_lt (by show q < 18446744073709551616; omega)] at k; exact k
        · rw [decide_eq_false k] at hz'
          by_cases k2 : (numS r).2.2 = 0
          · rw [if_pos ⟨k2, rfl⟩] at hz'; cases hz'
          · rw [if_neg (fun q => k2 q.1)] at hz'; exact absurd hz' k2
      rw [if_pos hz]
      as_aux_lemma =>
        repeat' (first
            | refine rnC ?_
            | refine rnSB ?_
            | refine rnG ?_
            | refine rnU ?_
            | ((fail_if_success (refine rnKn ?_)); refine rnP ?_ ?_ <;> (intro hq; try (have hq' := hq; simp only [hqs] at hq')))
            | refine rkC ?_
            | refine rkSB ?_
            | refine rkF ?_
            | refine rkU ?_
            | ((fail_if_success (refine rkKn ?_)); refine rkP ?_ ?_ <;> (intro hq; try (have hq' := hq; simp only [hqs] at hq')))
            | refine stp ?_
            | refine ifT ?_
            | refine ifF ?_
            | (refine ifQ ?_ ?_ <;> (try (intro hn)))
            | (refine ifB ?_ ?_ <;> (intro hq; try (have hq' := hq; simp only [hqs] at hq'))))
        exact RetO.mk (ot1 rfl rfl finS_p rfl) ⟨.box finL_p, trivial⟩
    · have d2 : decide ((mustS (decide (((numS r).1 : Int) ≤ ((q % md .u64 : Nat) : Int))) (numS r).2).2 ≠ 0) = true := decide_eq_true hz
      rw [if_neg hz]
      as_aux_lemma =>
        repeat' (first
            | refine rnC ?_
            | refine rnSB ?_
            | refine rnG ?_
            | refine rnU ?_
            | ((fail_if_success (refine rnKn ?_)); refine rnP ?_ ?_ <;> (intro hq; try (have hq' := hq; simp only [hqs] at hq')))
            | refine rkC ?_
            | refine rkSB ?_
            | refine rkF ?_
            | refine rkU ?_
            | ((fail_if_success (refine rkKn ?_)); refine rkP ?_ ?_ <;> (intro hq; try (have hq' := hq; simp only [hqs] at hq')))
            | refine stp ?_
            | refine ifT ?_
            | refine ifF ?_
            | (refine ifQ ?_ ?_ <;> (try (intro hn)))
            | (refine ifB ?_ ?_ <;> (intro hq; try (have hq' := hq; simp only [hqs] at hq'))))
        exact RetO.mk (ot1 rfl rfl finS_p rfl) ⟨.box finL_p, trivial⟩
  · have d1 : decide (0 ≤ most) = false := decide_eq_false h0
    rw [d1, Bool.false_and]
    by_cases hz : (mustS false (numS r).2).2 = 0
    · exfalso
      unfold mustS at hz
      by_cases k2 : (numS r).2.2 = 0
      · rw [if_pos ⟨k2, rfl⟩] at hz; cases hz
      · rw [if_neg (fun q => k2 q.1)] at hz; exact absurd hz k2
    · have d2 : decide ((mustS false (numS r).2).2 ≠ 0) = true := decide_eq_true hz
      rw [if_neg hz]
      as_aux_lemma =>
        repeat' (first
            | refine rnC ?_
            | refine rnSB ?_
            | refine rnG ?_
            | refine rnU ?_
            | ((fail_if_success (refine rnKn ?_)); refine rnP ?_ ?_ <;> (intro hq; try (have hq' := hq; simp only [hqs] at hq')))
            | refine rkC ?_
            | refine rkSB ?_
            | refine rkF ?_
            | refine rkU ?_
            | ((fail_if_success (refine rkKn ?_)); refine rkP ?_ ?_ <;> (intro hq; try (have hq' := hq; simp only [hqs] at hq')))
            | refine stp ?_
            | refine ifT ?_
            | refine ifF ?_
            | (refine ifQ ?_ ?_ <;> (try (intro hn)))
            | (refine ifB ?_ ?_ <;> (intro hq; try (have hq' := hq; simp only [hqs] at hq'))))
        exact RetO.mk (ot1 rfl rfl finS_p rfl) ⟨.box finL_p, trivial⟩
instance small_i {c g n : Nat} {r : RS} {most : Int} : OC Try.prog 56 [.o (.ptr c g 0), .p (.i most)] [(c, (n, some (rdM r)))] [] (n = g + 1 ∧ most ≤ 9223372036854775807 ∧ (∀ b ∈ r.1, b < 256) ∧ r.1.length ≤ 1000000000) (.p (.i (smallS most r).1)) [(c, (n, some (rdM (smallS most r).2)))] := ⟨fun h => by obtain ⟨rfl, h1, h2, h3⟩ := h; exact (small_o g r most h1 h2 h3).one c⟩
end Go.Proofs.Ytbfjcohocedoaaa.Wi
