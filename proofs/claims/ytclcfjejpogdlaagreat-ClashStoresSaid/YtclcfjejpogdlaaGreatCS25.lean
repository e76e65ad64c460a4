/- wire: readers of bytes, a writer's bytes; small numbers; THE ABSTRACT WALK, part 28: own slices whose capacity is known; elements copied into own slices; slices that overlap. Nothing here speaks of a program.; THE ABSTRACT WALK, part 29: do two own slices overlap? Nothing here speaks of a program. -/
import Derived.Test.YtclcfjejpogdlaaGreatCS24
import Derived.Test.YtclcfjejpogdlaaGreatCS06
import Derived.Test.YtclcfjejpogdlaaGreatCS17
import Derived.Lib.Overlaps
import Derived.Lib.AppendZerosOnto
import Derived.Laws.Externs
namespace Go.Proofs.YtclcfjejpogdlaaGreat.Wi
open Go Go.RowKit Go.Aw
set_option linter.unusedVariables false
set_option linter.unusedSimpArgs false
set_option maxRecDepth 8000
set_option maxHeartbeats 4000000
namespace W4
theorem lopC {C : Ctx} {o : Oper} {σ : St} {e : Eff} {ro : Nat → Bool} (h : LOp C o σ e ro := by
    first | (apply lop_osl_eqnil; (focus rfl); (focus exact inferInstance); (focus rfl); (focus exact ⟨_, _, _, rfl, rfl⟩); (focus rfl); (focus rfl)) | (apply lop_ap_exo; (focus rfl); (focus exact inferInstance); (focus exact inferInstance); (focus exact inferInstance); (focus rfl); (focus rfl); (focus rfl); (focus rfl); (focus rfl); (focus rfl); (focus first | (simp only [maxLen, List.length_append, List.length_cons, List.length_nil, List.length_take, List.length_drop, List.length_map]; omega) | omega); (focus first | (simp only [maxLen, List.length_append, List.length_cons, List.length_nil, List.length_take, List.length_drop, List.length_map]; omega) | omega); (focus rfl)) | exact W2.lopC | fail) : LOp C o σ e ro := h
section steps
variable {C : Ctx} {ops : Array Oper} {o : Oper} {rest : List Oper} {K : St → Prop} {σ : St} {e : Eff} {ro : Nat → Bool} {W : List (Nat × Nat)} {i : Nat}
theorem rnC {d : Nat} (hk : RunN C ops rest K (e.app (some d) σ)) (hg : Guard ops σ o true := by first | exact gd_n rfl rfl | exact gd_t rfl rfl rfl rfl | exact gd_t rfl rfl rfl (by assumption)) (hd : o.dst = some d := by rfl) (h : LOp C o σ e ro := by exact lopC) : RunN C ops (o :: rest) K σ := rn_any hg hd h hk
end steps
end W4
open W4
/-- bytes, copied -/
theorem cloneB_w (l : List Nat) (ex : Bool) (h : l.length ≤ 1000000000) : PCall Tryz.prog 156 [.p (.sl 1 (l.map bR) ex)] (.p (.sl 1 (l.map bR) false)) := by
  refine pcall_of Tryz.func156 rfl (fun w0 F S0 M0 => ?_)
  as_aux_lemma =>
    repeat' (first | refine rnC ?_ | refine rnSB ?_ | refine rnG ?_ | refine rnU ?_ | ((fail_if_success (refine rnKn ?_)); refine rnP ?_ ?_ <;> (intro hq; try (have hq' := hq; simp only [hqs] at hq'))) | refine rkC ?_ | refine rkSB ?_ | refine rkF ?_ | refine rkU ?_ | ((fail_if_success (refine rkKn ?_)); refine rkP ?_ ?_ <;> (intro hq; try (have hq' := hq; simp only [hqs] at hq'))) | refine stp ?_ | refine ifT ?_ | refine ifF ?_ | (refine ifQ ?_ ?_ <;> (try (intro hn))) | (refine ifB ?_ ?_ <;> (intro hq; try (have hq' := hq; simp only [hqs] at hq'))))
    · have e : l = [] := List.eq_nil_of_length_eq_zero (by have := congrArg List.length hn; rwa [List.length_map, List.length_nil] at this)
      subst e
      exact rt1 rfl rfl (.one .nil) rfl
    · exact rt1 rfl rfl finS_p rfl
theorem cloneO_o (n : Nat) (l : List Nat) (h : l.length ≤ 1000000000) : OCall Tryz.prog 156 [.o (.osl 1000 n 1 0 l.length)] (memL [(1000, (n + 1, some (.buf 5 1 (l.map bR))))]) (.p (.sl 1 (l.map bR) false)) (memL [(1000, (n + 1, some (.buf 5 1 (l.map bR))))]) := by
  refine ocall_of1 Tryz.func156 rfl (fun w0 F S0 M0 => ?_)
  as_aux_lemma =>
    repeat' (first | refine rnC ?_ | refine rnSB ?_ | refine rnG ?_ | refine rnU ?_ | ((fail_if_success (refine rnKn ?_)); refine rnP ?_ ?_ <;> (intro hq; try (have hq' := hq; simp only [hqs] at hq'))) | refine rkC ?_ | refine rkSB ?_ | refine rkF ?_ | refine rkU ?_ | ((fail_if_success (refine rkKn ?_)); refine rkP ?_ ?_ <;> (intro hq; try (have hq' := hq; simp only [hqs] at hq'))) | refine stp ?_ | refine ifT ?_ | refine ifF ?_ | (refine ifQ ?_ ?_ <;> (try (intro hn))) | (refine ifB ?_ ?_ <;> (intro hq; try (have hq' := hq; simp only [hqs] at hq'))))
    · have e : l = [] := List.eq_nil_of_length_eq_zero hn
      subst e
      exact RetO.mk (ot1 rfl rfl (.one .nil) rfl) ⟨.buf, trivial⟩
    · exact RetO.mk (ot1 rfl rfl finS_p rfl) ⟨.buf, trivial⟩
instance cloneO_i {c g n : Nat} {l : List Nat} : OC Tryz.prog 156 [.o (.osl c g 1 0 l.length)] [(c, (n, some (.buf 5 1 (l.map bR))))] [] (n = g + 1 ∧ l.length ≤ 1000000000) (.p (.sl 1 (l.map bR) false)) [(c, (n, some (.buf 5 1 (l.map bR))))] := ⟨fun h => by obtain ⟨rfl, h⟩ := h; exact (cloneO_o g l h).one c⟩
theorem bytes_o (n : Nat) (bs : List Nat) (h : bs.length ≤ 1000000000) : OCall Tryz.prog 95 [.o (.ptr 1000 n 0)] (memL [(1000, (n + 1, some (.abs (wrA bs))))]) (.p (.sl 1 (bs.map bR) false)) (memL [(1000, (n + 1, some (.abs (wrA bs))))]) := by
  refine ocall_of1 Tryz.func95 rfl (fun w0 F S0 M0 => ?_)
  refine aws_says (says_unpack' (p := 1000) (o := 901) rfl rfl (List.length_map _) rfl (by decide)) ?_
  repeat' (first | refine rnC ?_ | refine rnSB ?_ | refine rnG ?_ | refine rnU ?_ | ((fail_if_success (refine rnKn ?_)); refine rnP ?_ ?_ <;> (intro hq; try (have hq' := hq; simp only [hqs] at hq'))) | refine rkC ?_ | refine rkSB ?_ | refine rkF ?_ | refine rkU ?_ | ((fail_if_success (refine rkKn ?_)); refine rkP ?_ ?_ <;> (intro hq; try (have hq' := hq; simp only [hqs] at hq'))) | refine stpR ?_ | refine ifT ?_ | refine ifF ?_ | (refine ifQ ?_ ?_ <;> (try (intro hn))) | (refine ifB ?_ ?_ <;> (intro hq; try (have hq' := hq; simp only [hqs] at hq'))))
  refine aws_says (says_pack (p := 1000) (o := 901) (pre := []) (post := []) rfl rfl rfl rfl (by rw [List.length_map]) (by decide)) ?_
  as_aux_lemma =>
    repeat' (first | refine rnC ?_ | refine rnSB ?_ | refine rnG ?_ | refine rnU ?_ | ((fail_if_success (refine rnKn ?_)); refine rnP ?_ ?_ <;> (intro hq; try (have hq' := hq; simp only [hqs] at hq'))) | refine rkC ?_ | refine rkSB ?_ | refine rkF ?_ | refine rkU ?_ | ((fail_if_success (refine rkKn ?_)); refine rkP ?_ ?_ <;> (intro hq; try (have hq' := hq; simp only [hqs] at hq'))) | refine stp ?_ | refine ifT ?_ | refine ifF ?_ | (refine ifQ ?_ ?_ <;> (try (intro hn))) | (refine ifB ?_ ?_ <;> (intro hq; try (have hq' := hq; simp only [hqs] at hq'))))
    exact RetO.mk (ot1 rfl rfl finS_p rfl) ⟨.abs, trivial⟩
instance bytes_i {c g n : Nat} {bs : List Nat} : OC Tryz.prog 95 [.o (.ptr c g 0)] [(c, (n, some (.abs (wrA bs))))] [] (n = g + 1 ∧ bs.length ≤ 1000000000) (.p (.sl 1 (bs.map bR) false)) [(c, (n, some (.abs (wrA bs))))] := ⟨fun h => by obtain ⟨rfl, h⟩ := h; exact (bytes_o g bs h).one c⟩
end Go.Proofs.YtclcfjejpogdlaaGreat.Wi
namespace Go.Aw
open Go Go.RowKit
set_option linter.unusedVariables false
set_option linter.unusedSimpArgs false
section ops
variable {C : Ctx} {o : Oper} {σ : St}
/-- a slice of so many elements, of which the first ones are known -/
def SrcN (C : Ctx) (σ : St) (x : Operand) (es L : Nat) (news : List (List PVal)) (ro : Nat → Bool) : Prop :=
  ∀ τ a w G, τ.look x = σ.look x → (∀ y, ro y = true → τ.mem y = σ.mem y) → RelG C τ a w G →
    ∃ ad cap, a.eval x = .slice (some ad) L cap ∧ ∀ i row, news[i]? = some row → row.length = es ∧ ∀ j p, row[j]? = some p → ∃ c, w.cell? (ad.add (i * es + j)) = some c ∧ p.holds ⟨w, G.S⟩ c
theorem SrcOk.n {C : Ctx} {σ : St} {x : Operand} {es : Nat} {news : List (List PVal)} {ro : Nat → Bool} (h : SrcOk C σ x es news ro) (h0 : 0 < news.length) : SrcN C σ x es news.length news ro := fun τ a w G h1 h2 hr => by
  obtain ⟨base, cap, e1, e2⟩ := h τ a w G h1 h2 hr
  cases base with
  | none => simp only at e2; rw [e2] at h0; cases h0
  | some ad => exact ⟨ad, cap, e1, e2⟩
end ops
end Go.Aw
namespace Go.Aw
open Go Go.RowKit
set_option linter.unusedVariables false
set_option linter.unusedSimpArgs false
/-- a function of the library that the model knows: it tells whether two slices overlap -/
class OvF (P : Program) (f : FuncId) (tS tR : TypeId) : Prop where
  fn : ∃ fn, P.funcs[f]? = some fn ∧ (fn.name == "runtime.NumGoroutine") = false ∧ fn.body.isNone = true ∧ Extern.findNext fn = none ∧ Extern.find fn = some (Extern.SlicesOverlaps.overlaps #[tS, tS] #[tR])
end Go.Aw
