/- carts: is there an entry of which something holds? -/
import Derived.Test.YtacofbbclmbbeaaCa8
namespace Go.Proofs.Ytacofbbclmbbeaa.Ca
open Go Go.RowKit Go.Aw Go.Aw.Cart
set_option linter.unusedVariables false
set_option linter.unusedSimpArgs false
set_option maxRecDepth 8000
set_option maxHeartbeats 4000000
instance {f : FuncId} {caps : List PVal} {pre : Prop} {p : Ent → Bool} {l : List Ent} {ex : Bool} [hf : FnT Try.prog f] [hp : FP Try.prog f caps pre p] : PC Try.prog 79 [.p (.sl 4 (l.map eR) ex), .p (.fnv f caps)] (pre ∧ l.length ≤ 1000000000) (.p (.i (idxP p l 0 l.length))) := ⟨fun h => indexFunc_w f caps hf p l ex h.2 (hp.call h.1)⟩
theorem containsFunc_w (f : FuncId) (caps : List PVal) (hf : FnT Try.prog f) (p : Ent → Bool) (l : List Ent) (ex : Bool) (h : l.length ≤ 1000000000) (hp : ∀ e, PCall Try.prog f ([eV e] ++ caps.map .p) (.p (.b (p e)))) : PCall Try.prog 58 [.p (.sl 4 (l.map eR) ex), .p (.fnv f caps)] (.p (.b (l.any p))) := by
  refine pcall_of Try.func58 rfl (fun w0 F S0 M0 => ?_)
  haveI : FP Try.prog f caps True p := ⟨fun _ => hp⟩
  repeat' (first
      | refine rnJ ?_
      | refine rnSB ?_
      | refine rnG ?_
      | refine rnU ?_
      | ((fail_if_success (refine rnKn ?_)); refine rnP ?_ ?_ <;> (intro hq; try (have hq' := hq; simp only [hqs] at hq')))
      | refine rkJ ?_
      | refine rkSB ?_
      | refine rkF ?_
      | refine rkU ?_
      | ((fail_if_success (refine rkKn ?_)); refine rkP ?_ ?_ <;> (intro hq; try (have hq' := hq; simp only [hqs] at hq')))
      | refine stp ?_
      | refine aws_draws [] mixed (by kernel_rfl) ?_
      | refine ifT ?_
      | refine ifF ?_
      | (refine ifQ ?_ ?_ <;> (try (intro hn)))
      | (refine ifB ?_ ?_ <;> (intro hq; try (have hq' := hq; simp only [hqs] at hq'))))
  refine rt1 rfl rfl finS_p (rb ?_)
  have := idxP_any (p := p) (l := l) l.length 0 (by omega)
  rw [List.drop_zero] at this
  exact this.symm
instance {f : FuncId} {caps : List PVal} {pre : Prop} {p : Ent → Bool} {l : List Ent} {ex : Bool} [hf : FnT Try.prog f] [hp : FP Try.prog f caps pre p] : PC Try.prog 58 [.p (.sl 4 (l.map eR) ex), .p (.fnv f caps)] (pre ∧ l.length ≤ 1000000000) (.p (.b (l.any p))) := ⟨fun h => containsFunc_w f caps hf p l ex h.2 (hp.call h.1)⟩
end Go.Proofs.Ytacofbbclmbbeaa.Ca
