/- carts: entries in order -/
import Derived.Test.YtacofbbclmbbeaaCa5
namespace Go.Proofs.Ytacofbbclmbbeaa.Ca
open Go Go.RowKit Go.Aw Go.Aw.Cart
set_option linter.unusedVariables false
set_option linter.unusedSimpArgs false
set_option maxRecDepth 8000
set_option maxHeartbeats 4000000
instance {l : List Ent} {ex : Bool} : IC Try.prog 81 [.bx [.sl 4 (l.map eR) ex] 0] (l.length ≤ 1000000000) (l.map eV) := ⟨iterE_w l ex⟩
instance {f : FuncId} {caps : List PVal} {l : List Ent} {pre : Prop} {c k : Nat} [hf : FnT Try.prog f] [hi : IC Try.prog f caps pre (l.map eV)] : OC Try.prog 54 [.p (.v (.slice none 0 0)), .p (.fnv f caps)] [] [(c, k)] (pre ∧ l.length ≤ 1000000000) (.o (.osl c (k + l.length) 4 0 l.length)) [(c, (k + (l.length + 1), some (.buf 31 4 (l.map eR))))] := ⟨fun h => (appendE_o f caps hf l h.2 (hi.call h.1)).fresh1 c k⟩
theorem collectE_o (f : FuncId) (caps : List PVal) (hf : FnT Try.prog f) (l : List Ent) (h : l.length ≤ 1000000000) (hI : ICall Try.prog f caps (l.map eV)) : OCall Try.prog 55 [.p (.fnv f caps)] (fun _ => (0, none)) (.o (.osl 4 (0 + l.length) 4 0 l.length)) (memL [(4, (0 + (l.length + 1), some (.buf 31 4 (l.map eR))))]) := by
  refine ocall_ofF 4 Try.func55 rfl (fun w0 F S0 M0 => ?_)
  haveI : IC Try.prog f caps True (l.map eV) := ⟨fun _ => hI⟩
  repeat' (first
      | refine rnJ ?_
      | refine rnSB ?_
      | refine rnG ?_
      | refine rnU ?_
      | ((fail_if_success (refine rnKn ?_)); refine rnP ?_ ?_ <;> (intro hq; try (have hq' := hq; simp only [hqs] at hq')))
      | refine rkJ ?_
      | refine rkSB ?_
      | refine rkF ?_
      | refine rkU ?_
      | ((fail_if_success (refine rkKn ?_)); refine rkP ?_ ?_ <;> (intro hq; try (have hq' := hq; simp only [hqs] at hq')))
      | refine stp ?_
      | refine ifT ?_
      | refine ifF ?_
      | (refine ifQ ?_ ?_ <;> (try (intro hn)))
      | (refine ifB ?_ ?_ <;> (intro hq; try (have hq' := hq; simp only [hqs] at hq'))))
  exact RetO.mk (ot1 rfl rfl (.one (.kosl rfl)) rfl) ⟨.buf, trivial⟩
instance {f : FuncId} {caps : List PVal} {l : List Ent} {pre : Prop} {c k : Nat} [hf : FnT Try.prog f] [hi : IC Try.prog f caps pre (l.map eV)] : OC Try.prog 55 [.p (.fnv f caps)] [] [(c, k)] (pre ∧ l.length ≤ 1000000000) (.o (.osl c (k + (0 + l.length)) 4 0 l.length)) [(c, (k + (0 + (l.length + 1)), some (.buf 31 4 (l.map eR))))] := ⟨fun h => (collectE_o f caps hf l h.2 (hi.call h.1)).fresh1 c k⟩
theorem sorted_o (f : FuncId) (caps : List PVal) (hf : FnT Try.prog f) (l : List Ent) (h : l.length ≤ 1000000000) (hI : ICall Try.prog f caps (l.map eV)) : PCall Try.prog 49 [.p (.fnv f caps), .p (.v (.func (.func 43) #[] #[]))] (.p (.sl 4 ((sortE l).map eR) false)) := by
  refine pcall_of Try.func49 rfl (fun w0 F S0 M0 => ?_)
  haveI : IC Try.prog f caps True (l.map eV) := ⟨fun _ => hI⟩
  repeat' (first
      | refine rnJ ?_
      | refine rnSB ?_
      | refine rnG ?_
      | refine rnU ?_
      | ((fail_if_success (refine rnKn ?_)); refine rnP ?_ ?_ <;> (intro hq; try (have hq' := hq; simp only [hqs] at hq')))
      | refine rkJ ?_
      | refine rkSB ?_
      | refine rkF ?_
      | refine rkU ?_
      | ((fail_if_success (refine rkKn ?_)); refine rkP ?_ ?_ <;> (intro hq; try (have hq' := hq; simp only [hqs] at hq')))
      | refine stp ?_
      | refine ifT ?_
      | refine ifF ?_
      | (refine ifQ ?_ ?_ <;> (try (intro hn)))
      | (refine ifB ?_ ?_ <;> (intro hq; try (have hq' := hq; simp only [hqs] at hq'))))
  exact rt1 rfl rfl (.one (finC_map rfl rfl (by omega) (sortE_len l).symm)) rfl
instance {f : FuncId} {caps : List PVal} {l : List Ent} {pre : Prop} [hf : FnT Try.prog f] [hi : IC Try.prog f caps pre (l.map eV)] : PC Try.prog 49 [.p (.fnv f caps), .p (.v (.func (.func 43) #[] #[]))] (pre ∧ l.length ≤ 1000000000) (.p (.sl 4 ((sortE l).map eR) false)) := ⟨fun h => sorted_o f caps hf l h.2 (hi.call h.1)⟩
theorem order_w (l : List Ent) (ex : Bool) (h : l.length ≤ 1000000000) : PCall Try.prog 21 [.p (.sl 4 (l.map eR) ex)] (.p (.sl 4 ((sortE l).map eR) false)) := by
  refine pcall_of Try.func21 rfl (fun w0 F S0 M0 => ?_)
  repeat' (first
      | refine rnJ ?_
      | refine rnSB ?_
      | refine rnG ?_
      | refine rnU ?_
      | ((fail_if_success (refine rnKn ?_)); refine rnP ?_ ?_ <;> (intro hq; try (have hq' := hq; simp only [hqs] at hq')))
      | refine rkJ ?_
      | refine rkSB ?_
      | refine rkF ?_
      | refine rkU ?_
      | ((fail_if_success (refine rkKn ?_)); refine rkP ?_ ?_ <;> (intro hq; try (have hq' := hq; simp only [hqs] at hq')))
      | refine stp ?_
      | refine ifT ?_
      | refine ifF ?_
      | (refine ifQ ?_ ?_ <;> (try (intro hn)))
      | (refine ifB ?_ ?_ <;> (intro hq; try (have hq' := hq; simp only [hqs] at hq'))))
  exact rt1 rfl rfl finS_p rfl
instance {l : List Ent} {ex : Bool} : PC Try.prog 21 [.p (.sl 4 (l.map eR) ex)] (l.length ≤ 1000000000) (.p (.sl 4 ((sortE l).map eR) false)) := ⟨order_w l ex⟩
end Go.Proofs.Ytacofbbclmbbeaa.Ca
