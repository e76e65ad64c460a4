/- carts: nodes, dots, entries, tallies // carts: the first entry of which something holds // carts: is there an entry of which something holds?; carts: dots as a set; carts: entries without some; carts: entries copied, and without some; carts: tallies // carts: a number's tally; carts: equal entries; carts: a cart's cells; its functions that have no loop -/
import Derived.Test.YtclcfjejpogdlaaGreatIB08
import Derived.Test.YtclcfjejpogdlaaGreatIB09
import Derived.Test.YtclcfjejpogdlaaGreatIB10
namespace Go.Proofs.YtclcfjejpogdlaaGreat.Ca
open Go Go.RowKit Go.Aw Go.Aw.Cart
set_option linter.unusedVariables false
set_option linter.unusedSimpArgs false
set_option maxRecDepth 8000
set_option maxHeartbeats 4000000
def nodeF (n : Int) : Bool := decide (1 ≤ n ∧ n ≤ 8)
def dotF (d : Dot) : Bool := decide (1 ≤ d.1 ∧ d.1 ≤ 8 ∧ 0 < d.2)
def getF (v : List Int) (n : Int) : Int := if 1 ≤ n ∧ n ≤ 8 then v.getD (n - 1).toNat default else 0
def hasF (v : List Int) (d : Dot) : Bool := dotF d && decide (d.2 ≤ getF v d.1)
def entF (e : Ent) : Bool := decide (1 ≤ e.1 ∧ e.1 ≤ 60 ∧ -1000 ≤ e.2.2.2 ∧ e.2.2.2 ≤ 1000)
abbrev vV (v : List Int) : AV := .a (v.map fun n => .p (.k .u64 n))
theorem isNode_w (n : Int) : PCall Tryz.prog 283 [.p (.i n)] (.p (.b (nodeF n))) := by
  refine pcall_of Tryz.func283 rfl (fun w0 F S0 M0 => ?_)
  unfold nodeF
  repeat' (first | refine rnJ ?_ | refine rnSB ?_ | refine rnG ?_ | refine rnU ?_ | ((fail_if_success (refine rnKn ?_)); refine rnP ?_ ?_ <;> (intro hq; try (have hq' := hq; simp only [hqs] at hq'))) | refine rkJ ?_ | refine rkSB ?_ | refine rkF ?_ | refine rkU ?_ | ((fail_if_success (refine rkKn ?_)); refine rkP ?_ ?_ <;> (intro hq; try (have hq' := hq; simp only [hqs] at hq'))) | refine stp ?_ | refine aws_draws [] mixed (by kernel_rfl) ?_ | refine ifT ?_ | refine ifF ?_ | (refine ifQ ?_ ?_ <;> (try (intro hn))) | (refine ifB ?_ ?_ <;> (intro hq; try (have hq' := hq; simp only [hqs] at hq'))))
  all_goals refine rt1 rfl rfl finS_p (rb ?_)
  all_goals first | exact decide_eq_decide.2 (by omega) | exact decide_eq_true (by omega) | exact decide_eq_false (by omega)
instance {n : Int} : PC Tryz.prog 283 [.p (.i n)] True (.p (.b (nodeF n))) := ⟨fun _ => isNode_w n⟩
theorem dotR_w (d : Dot) : PCall Tryz.prog 263 [dV d] (.p (.b (dotF d))) := by
  refine pcall_of Tryz.func263 rfl (fun w0 F S0 M0 => ?_)
  unfold dotF
  cases h : nodeF d.1 with
  | true =>
    have := of_decide_eq_true h
    repeat' (first | refine rnJ ?_ | refine rnSB ?_ | refine rnG ?_ | refine rnU ?_ | ((fail_if_success (refine rnKn ?_)); refine rnP ?_ ?_ <;> (intro hq; try (have hq' := hq; simp only [hqs] at hq'))) | refine rkJ ?_ | refine rkSB ?_ | refine rkF ?_ | refine rkU ?_ | ((fail_if_success (refine rkKn ?_)); refine rkP ?_ ?_ <;> (intro hq; try (have hq' := hq; simp only [hqs] at hq'))) | refine stp ?_ | refine aws_draws [] mixed (by kernel_rfl) ?_ | refine ifT ?_ | refine ifF ?_ | (refine ifQ ?_ ?_ <;> (try (intro hn))) | (refine ifB ?_ ?_ <;> (intro hq; try (have hq' := hq; simp only [hqs] at hq'))))
    refine rt1 rfl rfl finS_p (rb ?_)
    exact decide_eq_decide.2 (by omega)
  | false =>
    have := of_decide_eq_false h
    repeat' (first | refine rnJ ?_ | refine rnSB ?_ | refine rnG ?_ | refine rnU ?_ | ((fail_if_success (refine rnKn ?_)); refine rnP ?_ ?_ <;> (intro hq; try (have hq' := hq; simp only [hqs] at hq'))) | refine rkJ ?_ | refine rkSB ?_ | refine rkF ?_ | refine rkU ?_ | ((fail_if_success (refine rkKn ?_)); refine rkP ?_ ?_ <;> (intro hq; try (have hq' := hq; simp only [hqs] at hq'))) | refine stp ?_ | refine aws_draws [] mixed (by kernel_rfl) ?_ | refine ifT ?_ | refine ifF ?_ | (refine ifQ ?_ ?_ <;> (try (intro hn))) | (refine ifB ?_ ?_ <;> (intro hq; try (have hq' := hq; simp only [hqs] at hq'))))
    refine rt1 rfl rfl finS_p (rb ?_)
    exact decide_eq_false (by omega)
instance {d : Dot} : PC Tryz.prog 263 [dV d] True (.p (.b (dotF d))) := ⟨fun _ => dotR_w d⟩
theorem get_w (v : List Int) (n : Int) (hv : v.length = 8) : PCall Tryz.prog 264 [vV v, .p (.i n)] (.p (.k .u64 (getF v n))) := by
  refine pcall_of Tryz.func264 rfl (fun w0 F S0 M0 => ?_)
  unfold getF
  by_cases h : 1 ≤ n ∧ n ≤ 8
  · have hn : (!nodeF n) = false := by rw [show nodeF n = true from decide_eq_true h]; rfl
    rw [if_pos h]
    repeat' (first | refine rnJ ?_ | refine rnSB ?_ | refine rnG ?_ | refine rnU ?_ | ((fail_if_success (refine rnKn ?_)); refine rnP ?_ ?_ <;> (intro hq; try (have hq' := hq; simp only [hqs] at hq'))) | refine rkJ ?_ | refine rkSB ?_ | refine rkF ?_ | refine rkU ?_ | ((fail_if_success (refine rkKn ?_)); refine rkP ?_ ?_ <;> (intro hq; try (have hq' := hq; simp only [hqs] at hq'))) | refine stp ?_ | refine aws_draws [] mixed (by kernel_rfl) ?_ | refine ifT ?_ | refine ifF ?_ | (refine ifQ ?_ ?_ <;> (try (intro hn))) | (refine ifB ?_ ?_ <;> (intro hq; try (have hq' := hq; simp only [hqs] at hq'))))
    exact rt1 rfl rfl finS_p rfl
  · have hn : (!nodeF n) = true := by rw [show nodeF n = false from decide_eq_false h]; rfl
    rw [if_neg h]
    repeat' (first | refine rnJ ?_ | refine rnSB ?_ | refine rnG ?_ | refine rnU ?_ | ((fail_if_success (refine rnKn ?_)); refine rnP ?_ ?_ <;> (intro hq; try (have hq' := hq; simp only [hqs] at hq'))) | refine rkJ ?_ | refine rkSB ?_ | refine rkF ?_ | refine rkU ?_ | ((fail_if_success (refine rkKn ?_)); refine rkP ?_ ?_ <;> (intro hq; try (have hq' := hq; simp only [hqs] at hq'))) | refine stp ?_ | refine aws_draws [] mixed (by kernel_rfl) ?_ | refine ifT ?_ | refine ifF ?_ | (refine ifQ ?_ ?_ <;> (try (intro hn))) | (refine ifB ?_ ?_ <;> (intro hq; try (have hq' := hq; simp only [hqs] at hq'))))
    exact rt1 rfl rfl finS_p rfl
instance {v : List Int} {n : Int} : PC Tryz.prog 264 [vV v, .p (.i n)] (v.length = 8) (.p (.k .u64 (getF v n))) := ⟨get_w v n⟩
theorem has_w (v : List Int) (d : Dot) (hv : v.length = 8) : PCall Tryz.prog 243 [vV v, dV d] (.p (.b (hasF v d))) := by
  refine pcall_of Tryz.func243 rfl (fun w0 F S0 M0 => ?_)
  unfold hasF
  cases h : dotF d with
  | true =>
    repeat' (first | refine rnJ ?_ | refine rnSB ?_ | refine rnG ?_ | refine rnU ?_ | ((fail_if_success (refine rnKn ?_)); refine rnP ?_ ?_ <;> (intro hq; try (have hq' := hq; simp only [hqs] at hq'))) | refine rkJ ?_ | refine rkSB ?_ | refine rkF ?_ | refine rkU ?_ | ((fail_if_success (refine rkKn ?_)); refine rkP ?_ ?_ <;> (intro hq; try (have hq' := hq; simp only [hqs] at hq'))) | refine stp ?_ | refine aws_draws [] mixed (by kernel_rfl) ?_ | refine ifT ?_ | refine ifF ?_ | (refine ifQ ?_ ?_ <;> (try (intro hn))) | (refine ifB ?_ ?_ <;> (intro hq; try (have hq' := hq; simp only [hqs] at hq'))))
    exact rt1 rfl rfl finS_p rfl
  | false =>
    repeat' (first | refine rnJ ?_ | refine rnSB ?_ | refine rnG ?_ | refine rnU ?_ | ((fail_if_success (refine rnKn ?_)); refine rnP ?_ ?_ <;> (intro hq; try (have hq' := hq; simp only [hqs] at hq'))) | refine rkJ ?_ | refine rkSB ?_ | refine rkF ?_ | refine rkU ?_ | ((fail_if_success (refine rkKn ?_)); refine rkP ?_ ?_ <;> (intro hq; try (have hq' := hq; simp only [hqs] at hq'))) | refine stp ?_ | refine aws_draws [] mixed (by kernel_rfl) ?_ | refine ifT ?_ | refine ifF ?_ | (refine ifQ ?_ ?_ <;> (try (intro hn))) | (refine ifB ?_ ?_ <;> (intro hq; try (have hq' := hq; simp only [hqs] at hq'))))
    exact rt1 rfl rfl finS_p rfl
instance {v : List Int} {d : Dot} : PC Tryz.prog 243 [vV v, dV d] (v.length = 8) (.p (.b (hasF v d))) := ⟨has_w v d⟩
theorem isEntry_w (e : Ent) : PCall Tryz.prog 242 [eV e] (.p (.b (entF e))) := by
  refine pcall_of Tryz.func242 rfl (fun w0 F S0 M0 => ?_)
  unfold entF
  repeat' (first | refine rnJ ?_ | refine rnSB ?_ | refine rnG ?_ | refine rnU ?_ | ((fail_if_success (refine rnKn ?_)); refine rnP ?_ ?_ <;> (intro hq; try (have hq' := hq; simp only [hqs] at hq'))) | refine rkJ ?_ | refine rkSB ?_ | refine rkF ?_ | refine rkU ?_ | ((fail_if_success (refine rkKn ?_)); refine rkP ?_ ?_ <;> (intro hq; try (have hq' := hq; simp only [hqs] at hq'))) | refine stp ?_ | refine aws_draws [] mixed (by kernel_rfl) ?_ | refine ifT ?_ | refine ifF ?_ | (refine ifQ ?_ ?_ <;> (try (intro hn))) | (refine ifB ?_ ?_ <;> (intro hq; try (have hq' := hq; simp only [hqs] at hq'))))
  all_goals refine rt1 rfl rfl finS_p (rb ?_)
  all_goals first | exact decide_eq_decide.2 (by omega) | exact decide_eq_true (by omega) | exact decide_eq_false (by omega)
instance {e : Ent} : PC Tryz.prog 242 [eV e] True (.p (.b (entF e))) := ⟨fun _ => isEntry_w e⟩
def dotE (e : Ent) : Dot := (e.2.1, e.2.2.1)
theorem dot_w (e : Ent) : PCall Tryz.prog 244 [eV e] (dV (dotE e)) := by
  refine pcall_of Tryz.func244 rfl (fun w0 F S0 M0 => ?_)
  repeat' (first | refine rnJ ?_ | refine rnSB ?_ | refine rnG ?_ | refine rnU ?_ | ((fail_if_success (refine rnKn ?_)); refine rnP ?_ ?_ <;> (intro hq; try (have hq' := hq; simp only [hqs] at hq'))) | refine rkJ ?_ | refine rkSB ?_ | refine rkF ?_ | refine rkU ?_ | ((fail_if_success (refine rkKn ?_)); refine rkP ?_ ?_ <;> (intro hq; try (have hq' := hq; simp only [hqs] at hq'))) | refine stp ?_ | refine aws_draws [] mixed (by kernel_rfl) ?_ | refine ifT ?_ | refine ifF ?_ | (refine ifQ ?_ ?_ <;> (try (intro hn))) | (refine ifB ?_ ?_ <;> (intro hq; try (have hq' := hq; simp only [hqs] at hq'))))
  exact rc1 rfl rfl rfl rfl rfl rfl finL_p rfl
instance {e : Ent} : PC Tryz.prog 244 [eV e] True (dV (dotE e)) := ⟨fun _ => dot_w e⟩
end Go.Proofs.YtclcfjejpogdlaaGreat.Ca
namespace Go.Proofs.YtclcfjejpogdlaaGreat.Ca
open Go Go.RowKit Go.Aw Go.Aw.Cart
set_option linter.unusedVariables false
set_option linter.unusedSimpArgs false
set_option maxRecDepth 8000
set_option maxHeartbeats 4000000
/-- a function's value that tells something of an entry -/
class FP (P : Program) (f : FuncId) (caps : List PVal) (pre : outParam Prop) (p : outParam (Ent → Bool)) : Prop where
  call : pre → ∀ e, PCall P f ([eV e] ++ caps.map .p) (.p (.b (p e)))
namespace C8
end C8
open C8
end Go.Proofs.YtclcfjejpogdlaaGreat.Ca
namespace Go.Proofs.YtclcfjejpogdlaaGreat.Ca
open Go Go.RowKit Go.Aw Go.Aw.Cart
set_option linter.unusedVariables false
set_option linter.unusedSimpArgs false
set_option maxRecDepth 8000
set_option maxHeartbeats 4000000
end Go.Proofs.YtclcfjejpogdlaaGreat.Ca
namespace Go.Proofs.YtclcfjejpogdlaaGreat.Ca
open Go Go.RowKit Go.Aw Go.Aw.Cart
set_option linter.unusedVariables false
set_option linter.unusedSimpArgs false
set_option maxRecDepth 8000
set_option maxHeartbeats 4000000
namespace G
theorem lop_bst2 {C : Ctx} {o : Oper} {σ : St} {T e : TypeId} {x0 : Operand} {sz by_ es be : Nat} {ke : TK} {z : List Value} {p0 p1 : PVal} (ho : o.op = .buildSlice T 1 #[(0, x0)]) (hT : TI C.P T (.slice e) sz by_) (he : TI C.P e ke es be) (hz : TZ C.P e z) (h0 : σ.look x0 = .a [.p p0, .p p1]) (hes : es = 2) (hd : dOk C o.dst = true) :
    LOp C o σ ⟨.p (.sl es [[p0, p1]] true), []⟩ (fun _ => false) := by
  subst hes
  exact lop_buildSlice (ps := [(0, [p0, p1])]) ho (.cons ⟨rfl, by simp, _, h0, by simp [SV.cells]⟩ .nil) rfl (by omega) (by omega) hd
theorem lopC {C : Ctx} {o : Oper} {σ : St} {e : Eff} {ro : Nat → Bool} (h : LOp C o σ e ro := by
    first | (apply lop_bst2; (focus rfl); (focus exact inferInstance); (focus exact inferInstance); (focus exact inferInstance); (focus rfl); (focus rfl); (focus rfl)) | exact lopY | fail) : LOp C o σ e ro := h
section steps
variable {C : Ctx} {ops : Array Oper} {o : Oper} {rest : List Oper} {K : St → Prop} {σ : St} {e : Eff} {ro : Nat → Bool} {W : List (Nat × Nat)} {i : Nat}
theorem rnC {d : Nat} (hk : RunN C ops rest K (e.app (some d) σ)) (hg : Guard ops σ o true := by first | exact gd_n rfl rfl | exact gd_t rfl rfl rfl rfl | exact gd_t rfl rfl rfl (by assumption)) (hd : o.dst = some d := by rfl) (h : LOp C o σ e ro := by exact lopC) : RunN C ops (o :: rest) K σ := rn_any hg hd h hk
end steps
instance {c g n len : Nat} {l : List Dot} : OC Tryz.prog 297 [.o (.osl c g 2 0 len)] [(c, (n, some (.buf 317 2 (l.map dR))))] [] (len = l.length ∧ n = g + 1 ∧ l.length ≤ 1000000000) (.o (.osl c g 2 0 (comp l).length)) [(c, (n, some (.buf 317 2 ((comp l).map dR))))] := ⟨fun h => by obtain ⟨rfl, rfl, h⟩ := h; exact (compactD_o g l h).one c⟩
def setTo (l : List Dot) (j : Nat) : List Dot := (l.take j).filter dotF
theorem setTo_succ {l : List Dot} {j : Nat} (h : j < l.length) : setTo l (j + 1) = setTo l j ++ (if dotF (l.getD j default) = true then [l.getD j default] else []) := by
  have e : l.getD j default = l[j] := by rw [List.getD_eq_getElem?_getD, List.getElem?_eq_getElem h]; rfl
  rw [setTo, setTo, List.take_succ_eq_append_getElem h, List.filter_append, e]
  congr 1
  by_cases hx : dotF l[j] = true
  · rw [if_pos hx, List.filter_cons_of_pos hx, List.filter_nil]
  · rw [if_neg hx, List.filter_cons_of_neg hx, List.filter_nil]
theorem setTo_len {l : List Dot} {j : Nat} : (setTo l j).length ≤ l.length := by
  unfold setTo
  exact Nat.le_trans (List.length_filter_le _ _) (by rw [List.length_take]; omega)
/-- as a set -/
def dotsOf (l : List Dot) : List Dot := (comp (sortD (l.filter dotF))).take 2000
theorem set_w (f : FuncId) (caps : List PVal) (hf : FnT Tryz.prog f) (l : List Dot) (h : l.length ≤ 1000000000) (hI : ICall Tryz.prog f caps (l.map dV)) : PCall Tryz.prog 285 [.p (.fnv f caps)] (.p (.sl 2 ((dotsOf l).map dR) false)) := by
  refine pcall_of Tryz.func285 rfl (fun w0 F S0 M0 => ?_)
  repeat' (first | refine rnC ?_ | refine rnSQ ?_ | refine rnG ?_ | refine rnU ?_ | ((fail_if_success (refine rnKn ?_)); refine rnP ?_ ?_ <;> (intro hq; try (have hq' := hq; simp only [hqs] at hq'))) | refine rkC ?_ | refine rkSQ ?_ | refine rkF ?_ | refine rkU ?_ | ((fail_if_success (refine rkKn ?_)); refine rkP ?_ ?_ <;> (intro hq; try (have hq' := hq; simp only [hqs] at hq'))) | refine stp ?_ | refine ifT ?_ | refine ifF ?_ | (refine ifQ ?_ ?_ <;> (try (intro hn))) | (refine ifB ?_ ?_ <;> (intro hq; try (have hq' := hq; simp only [hqs] at hq'))))
  refine aws_says (says_nil_box (p := 3) (o := 900) (ty := 317) (es := 2) rfl rfl (by decide) (by decide)) ?_
  refine aws_block ?_
  refine aws_range (ι := Option MO × Nat × Nat × List Dot) [4, 6, 7, 8, 9, 10, 11, 12] [3, 4, 900] (fun x => [(3, (1, some (.box 320 [.osl 900 x.2.2.1 2 0 x.2.2.2.length]))), (4, (x.2.1, x.1)), (900, (x.2.2.1 + 1, some (.buf 317 2 (x.2.2.2.map dR))))])
    (fun j x => x.2.2.2 = setTo l j ∧ x.2.1 = j ∧ j ≤ l.length) (none, 0, 0, []) rfl hf hI rfl ?_ rfl rfl (fun i => rfl) rfl ⟨rfl, rfl, Nat.zero_le _⟩ (by exact knA) ?_ ?_
  · intro x hx
    simp only [List.mem_map] at hx
    obtain ⟨e, _, rfl⟩ := hx
    exact inferInstance
  · rintro j x hjx ⟨c5, g, k, m⟩ γ w0 F S0 M0 lp R R' ⟨hm, hg, hj⟩
    simp only at hm hg
    have hjn : j < l.length := by
      by_cases hlt : j < l.length
      · exact hlt
      · rw [List.getElem?_map, List.getElem?_eq_none (by omega)] at hjx; cases hjx
    obtain rfl : x = dV (l.getD j default) := by
      rw [List.getElem?_map, List.getElem?_eq_getElem hjn] at hjx
      have e := Option.some.inj hjx
      rw [List.getD_eq_getElem?_getD, List.getElem?_eq_getElem hjn, ← e]; rfl
    have hml : m.length ≤ 1000000000 := by have := setTo_len (l := l) (j := j); rw [hm]; omega
    have hst := setTo_succ hjn
    dsimp only
    subst hg
    generalize hed : l.getD g default = ed at hst ⊢
    repeat' (first | refine rnC ?_ | refine rnSQ ?_ | refine rnG ?_ | refine rnU ?_ | ((fail_if_success (refine rnKn ?_)); refine rnP ?_ ?_ <;> (intro hq; try (have hq' := hq; simp only [hqs] at hq'))) | refine rkC ?_ | refine rkSQ ?_ | refine rkF ?_ | refine rkU ?_ | ((fail_if_success (refine rkKn ?_)); refine rkP ?_ ?_ <;> (intro hq; try (have hq' := hq; simp only [hqs] at hq'))) | refine stp ?_ | refine ifT ?_ | refine ifF ?_ | (refine ifQ ?_ ?_ <;> (try (intro hn))) | (refine ifB ?_ ?_ <;> (intro hq; try (have hq' := hq; simp only [hqs] at hq'))))
    refine ⟨rfl, rfl, ?_⟩
    cases hv : dotF ed with
    | true =>
      rw [if_pos hv] at hst
      repeat' (first | refine rnC ?_ | refine rnSQ ?_ | refine rnG ?_ | refine rnU ?_ | ((fail_if_success (refine rnKn ?_)); refine rnP ?_ ?_ <;> (intro hq; try (have hq' := hq; simp only [hqs] at hq'))) | refine rkC ?_ | refine rkSQ ?_ | refine rkF ?_ | refine rkU ?_ | ((fail_if_success (refine rkKn ?_)); refine rkP ?_ ?_ <;> (intro hq; try (have hq' := hq; simp only [hqs] at hq'))) | refine stp ?_ | refine ifT ?_ | refine ifF ?_ | (refine ifQ ?_ ?_ <;> (try (intro hn))) | (refine ifB ?_ ?_ <;> (intro hq; try (have hq' := hq; simp only [hqs] at hq'))))
      refine ⟨rfl, (some (.box 317 (dL ed)), g + 1, k + 1, m ++ [ed]), _, ⟨by dsimp only; rw [hst, hm], rfl, by omega⟩, .refl, Fr'.mk ?_ (by exact knA) (by exact knA)⟩
      repeat' (first | exact Agr.refl | refine Agr.appg rfl rfl ?_ | refine Agr.appgn rfl ?_ | refine Agr.set rfl ?_ | refine Agr.put rfl ?_ | refine Agr.put' ?_ | refine Agr.fr ?_ (memb_sub rfl) (memb_sub rfl) rfl rfl)
    | false =>
      rw [if_neg (by rw [hv]; simp), List.append_nil] at hst
      repeat' (first | refine rnC ?_ | refine rnSQ ?_ | refine rnG ?_ | refine rnU ?_ | ((fail_if_success (refine rnKn ?_)); refine rnP ?_ ?_ <;> (intro hq; try (have hq' := hq; simp only [hqs] at hq'))) | refine rkC ?_ | refine rkSQ ?_ | refine rkF ?_ | refine rkU ?_ | ((fail_if_success (refine rkKn ?_)); refine rkP ?_ ?_ <;> (intro hq; try (have hq' := hq; simp only [hqs] at hq'))) | refine stp ?_ | refine ifT ?_ | refine ifF ?_ | (refine ifQ ?_ ?_ <;> (try (intro hn))) | (refine ifB ?_ ?_ <;> (intro hq; try (have hq' := hq; simp only [hqs] at hq'))))
      refine ⟨rfl, (some (.box 317 (dL ed)), g + 1, k, m), _, ⟨by dsimp only; rw [hst, hm], rfl, by omega⟩, .refl, Fr'.mk ?_ (by exact knA) (by exact knA)⟩
      repeat' (first | exact Agr.refl | refine Agr.appg rfl rfl ?_ | refine Agr.appgn rfl ?_ | refine Agr.set rfl ?_ | refine Agr.put rfl ?_ | refine Agr.put' ?_ | refine Agr.fr ?_ (memb_sub rfl) (memb_sub rfl) rfl rfl)
  · rintro ⟨c5, g, k, m⟩ γ ⟨hm, hg, hj⟩
    simp only [List.length_map] at hm hg
    subst hg
    have hm' : m = l.filter dotF := by rw [hm, setTo, List.take_length]
    have hml : m.length ≤ 1000000000 := by have := setTo_len (l := l) (j := l.length); rw [hm]; omega
    have hsl : (sortD m).length ≤ 1000000000 := by rw [sortD_len]; exact hml
    have hsl' := sortD_len m
    have hcl := comp_len (sortD m)
    rw [show dotsOf l = (comp (sortD m)).take 2000 by rw [hm']; rfl]
    clear hm hm'
    dsimp only
    by_cases hc : 2000 < (comp (sortD m)).length
    · repeat' (first
    | refine rnC ?_
    | refine rnSQ ?_
    | refine rnG ?_
    | refine rnU ?_
    | ((fail_if_success (refine rnKn ?_)); refine rnP ?_ ?_ <;> (intro hq; try (have hq' := hq; simp only [hqs] at hq')))
    | refine rkC ?_
    | refine rkSQ ?_
    | refine rkF ?_
    | refine rkU ?_
    | ((fail_if_success (refine rkKn ?_)); refine rkP ?_ ?_ <;> (intro hq; try (have hq' := hq; simp only [hqs] at hq')))
    | refine stp ?_
    | refine ifT ?_
    | refine ifF ?_
    | (refine ifQ ?_ ?_ <;> (try (intro hn)))
    | (refine ifB ?_ ?_ <;> (intro hq; try (have hq' := hq; simp only [hqs] at hq'))))
      exact rt1 rfl rfl (.one (finC_take rfl rfl rfl (by omega) (by congr 1; omega))) rfl
    · repeat' (first
    | refine rnC ?_
    | refine rnSQ ?_
    | refine rnG ?_
    | refine rnU ?_
    | ((fail_if_success (refine rnKn ?_)); refine rnP ?_ ?_ <;> (intro hq; try (have hq' := hq; simp only [hqs] at hq')))
    | refine rkC ?_
    | refine rkSQ ?_
    | refine rkF ?_
    | refine rkU ?_
    | ((fail_if_success (refine rkKn ?_)); refine rkP ?_ ?_ <;> (intro hq; try (have hq' := hq; simp only [hqs] at hq')))
    | refine stp ?_
    | refine ifT ?_
    | refine ifF ?_
    | (refine ifQ ?_ ?_ <;> (try (intro hn)))
    | (refine ifB ?_ ?_ <;> (intro hq; try (have hq' := hq; simp only [hqs] at hq'))))
      exact rt1 rfl rfl (.one (finC_take rfl rfl rfl (by omega) (by rw [List.take_of_length_le (by omega), List.take_of_length_le (by omega)]))) rfl
end G
end Go.Proofs.YtclcfjejpogdlaaGreat.Ca
namespace Go.Proofs.YtclcfjejpogdlaaGreat.Ca
open Go Go.RowKit Go.Aw Go.Aw.Cart
set_option linter.unusedVariables false
set_option linter.unusedSimpArgs false
set_option maxRecDepth 8000
set_option maxHeartbeats 4000000
namespace D
end D
end Go.Proofs.YtclcfjejpogdlaaGreat.Ca
namespace Go.Proofs.YtclcfjejpogdlaaGreat.Ca
open Go Go.RowKit Go.Aw Go.Aw.Cart
set_option linter.unusedVariables false
set_option linter.unusedSimpArgs false
set_option maxRecDepth 8000
set_option maxHeartbeats 4000000
namespace D
end D
namespace D2
end D2
end Go.Proofs.YtclcfjejpogdlaaGreat.Ca
namespace Go.Proofs.YtclcfjejpogdlaaGreat.Ca
open Go Go.RowKit Go.Aw Go.Aw.Cart
set_option linter.unusedVariables false
set_option linter.unusedSimpArgs false
set_option maxRecDepth 8000
set_option maxHeartbeats 4000000
end Go.Proofs.YtclcfjejpogdlaaGreat.Ca
namespace Go.Proofs.YtclcfjejpogdlaaGreat.Ca
open Go Go.RowKit Go.Aw Go.Aw.Cart
set_option linter.unusedVariables false
set_option linter.unusedSimpArgs false
set_option maxRecDepth 8000
set_option maxHeartbeats 4000000
namespace CU
end CU
open CU
end Go.Proofs.YtclcfjejpogdlaaGreat.Ca
namespace Go.Proofs.YtclcfjejpogdlaaGreat.Ca
open Go Go.RowKit Go.Aw Go.Aw.Cart
set_option linter.unusedVariables false
set_option linter.unusedSimpArgs false
set_option maxRecDepth 8000
set_option maxHeartbeats 4000000
theorem vEqE (a b : Ent) : vEqB [.int .i64 a.1, .int .i64 a.2.1, .int .u64 a.2.2.1, .int .i64 a.2.2.2] [.int .i64 b.1, .int .i64 b.2.1, .int .u64 b.2.2.1, .int .i64 b.2.2.2] = decide (a = b) := by
  obtain ⟨a1, a2, a3, a4⟩ := a
  obtain ⟨b1, b2, b3, b4⟩ := b
  rw [Bool.eq_iff_iff]
  simp [vEqB, vEq]
theorem equalE_w (l m : List Ent) (ex ey : Bool) (h : l.length ≤ 1000000000) : PCall Tryz.prog 207 [.p (.sl 4 (l.map eR) ex), .p (.sl 4 (m.map eR) ey)] (.p (.b (decide (l = m)))) := by
  refine pcall_of Tryz.func207 rfl (fun w0 F S0 M0 => ?_)
  by_cases hlm : l.length = m.length
  · have d1 : decide ((l.length : Int) ≠ (m.length : Int)) = false := decide_eq_false (by omega)
    repeat' (first | refine rnJ ?_ | refine rnSB ?_ | refine rnG ?_ | refine rnU ?_ | ((fail_if_success (refine rnKn ?_)); refine rnP ?_ ?_ <;> (intro hq; try (have hq' := hq; simp only [hqs] at hq'))) | refine rkJ ?_ | refine rkSB ?_ | refine rkF ?_ | refine rkU ?_ | ((fail_if_success (refine rkKn ?_)); refine rkP ?_ ?_ <;> (intro hq; try (have hq' := hq; simp only [hqs] at hq'))) | refine stp ?_ | refine aws_draws [] mixed (by kernel_rfl) ?_ | refine ifT ?_ | refine ifF ?_ | (refine ifQ ?_ ?_ <;> (try (intro hn))) | (refine ifB ?_ ?_ <;> (intro hq; try (have hq' := hq; simp only [hqs] at hq'))))
    refine aws_loopS [4, 5, 13, 14, 15, 16, 17, 18, 19, 20, 21, 22, 23, 24, 25] [] (fun (i : Nat) => [(13, .p (.i i))]) (fun _ => []) (fun i => i ≤ l.length ∧ ∀ j, j < i → l.getD j default = m.getD j default) (fun i => l.length - i) 0 ⟨Nat.zero_le _, fun j hj => absurd hj (Nat.not_lt_zero _)⟩ (by exact knA) (by exact knA) ?_
    rintro i β γ ⟨hi, hx⟩
    by_cases hil : i < l.length
    · have hlt : decide ((i : Int) < (l.length : Int)) = true := decide_eq_true (by omega)
      by_cases hv : l.getD (i : Int).toNat default = m.getD (i : Int).toNat default
      · have hd := vEqE (l.getD (i : Int).toNat default) (m.getD (i : Int).toNat default)
        rw [decide_eq_true hv] at hd
        have hd2 : (!vEqB [.int .i64 (l.getD (i : Int).toNat default).1, .int .i64 (l.getD (i : Int).toNat default).2.1, .int .u64 (l.getD (i : Int).toNat default).2.2.1, .int .i64 (l.getD (i : Int).toNat default).2.2.2] [.int .i64 (m.getD (i : Int).toNat default).1, .int .i64 (m.getD (i : Int).toNat default).2.1, .int .u64 (m.getD (i : Int).toNat default).2.2.1, .int .i64 (m.getD (i : Int).toNat default).2.2.2]) = false := by rw [hd]; rfl
        rw [Int.toNat_natCast] at hv
        repeat' (first | refine rnJ ?_ | refine rnSB ?_ | refine rnG ?_ | refine rnU ?_ | ((fail_if_success (refine rnKn ?_)); refine rnP ?_ ?_ <;> (intro hq; try (have hq' := hq; simp only [hqs] at hq'))) | refine rkJ ?_ | refine rkSB ?_ | refine rkF ?_ | refine rkU ?_ | ((fail_if_success (refine rkKn ?_)); refine rkP ?_ ?_ <;> (intro hq; try (have hq' := hq; simp only [hqs] at hq'))) | refine stp ?_ | refine aws_draws [] mixed (by kernel_rfl) ?_ | refine ifT ?_ | refine ifF ?_ | (refine ifQ ?_ ?_ <;> (try (intro hn))) | (refine ifB ?_ ?_ <;> (intro hq; try (have hq' := hq; simp only [hqs] at hq'))))
        refine ⟨i + 1, _, by omega, ⟨by omega, fun j hj => ?_⟩, .refl, by exact frA⟩
        by_cases e : j = i
        · rw [e]; exact hv
        · exact hx j (by omega)
      · have hd := vEqE (l.getD (i : Int).toNat default) (m.getD (i : Int).toNat default)
        rw [decide_eq_false hv] at hd
        have hd2 : (!vEqB [.int .i64 (l.getD (i : Int).toNat default).1, .int .i64 (l.getD (i : Int).toNat default).2.1, .int .u64 (l.getD (i : Int).toNat default).2.2.1, .int .i64 (l.getD (i : Int).toNat default).2.2.2] [.int .i64 (m.getD (i : Int).toNat default).1, .int .i64 (m.getD (i : Int).toNat default).2.1, .int .u64 (m.getD (i : Int).toNat default).2.2.1, .int .i64 (m.getD (i : Int).toNat default).2.2.2]) = true := by rw [hd]; rfl
        repeat' (first | refine rnJ ?_ | refine rnSB ?_ | refine rnG ?_ | refine rnU ?_ | ((fail_if_success (refine rnKn ?_)); refine rnP ?_ ?_ <;> (intro hq; try (have hq' := hq; simp only [hqs] at hq'))) | refine rkJ ?_ | refine rkSB ?_ | refine rkF ?_ | refine rkU ?_ | ((fail_if_success (refine rkKn ?_)); refine rkP ?_ ?_ <;> (intro hq; try (have hq' := hq; simp only [hqs] at hq'))) | refine stp ?_ | refine aws_draws [] mixed (by kernel_rfl) ?_ | refine ifT ?_ | refine ifF ?_ | (refine ifQ ?_ ?_ <;> (try (intro hn))) | (refine ifB ?_ ?_ <;> (intro hq; try (have hq' := hq; simp only [hqs] at hq'))))
        refine rt1 rfl rfl finS_p (rb ?_)
        exact decide_eq_false fun q => hv (by rw [q])
    · have hlt : decide ((i : Int) < (l.length : Int)) = false := decide_eq_false (by omega)
      repeat' (first | refine rnJ ?_ | refine rnSB ?_ | refine rnG ?_ | refine rnU ?_ | ((fail_if_success (refine rnKn ?_)); refine rnP ?_ ?_ <;> (intro hq; try (have hq' := hq; simp only [hqs] at hq'))) | refine rkJ ?_ | refine rkSB ?_ | refine rkF ?_ | refine rkU ?_ | ((fail_if_success (refine rkKn ?_)); refine rkP ?_ ?_ <;> (intro hq; try (have hq' := hq; simp only [hqs] at hq'))) | refine stp ?_ | refine aws_draws [] mixed (by kernel_rfl) ?_ | refine ifT ?_ | refine ifF ?_ | (refine ifQ ?_ ?_ <;> (try (intro hn))) | (refine ifB ?_ ?_ <;> (intro hq; try (have hq' := hq; simp only [hqs] at hq'))))
      refine rt1 rfl rfl finS_p (rb ?_)
      refine decide_eq_true (List.ext_getElem hlm fun j h1 h2 => ?_)
      have := hx j (by omega)
      rw [List.getD_eq_getElem?_getD, List.getD_eq_getElem?_getD, List.getElem?_eq_getElem h1, List.getElem?_eq_getElem h2] at this
      exact this
  · have d1 : decide ((l.length : Int) ≠ (m.length : Int)) = true := decide_eq_true (by omega)
    repeat' (first | refine rnJ ?_ | refine rnSB ?_ | refine rnG ?_ | refine rnU ?_ | ((fail_if_success (refine rnKn ?_)); refine rnP ?_ ?_ <;> (intro hq; try (have hq' := hq; simp only [hqs] at hq'))) | refine rkJ ?_ | refine rkSB ?_ | refine rkF ?_ | refine rkU ?_ | ((fail_if_success (refine rkKn ?_)); refine rkP ?_ ?_ <;> (intro hq; try (have hq' := hq; simp only [hqs] at hq'))) | refine stp ?_ | refine aws_draws [] mixed (by kernel_rfl) ?_ | refine ifT ?_ | refine ifF ?_ | (refine ifQ ?_ ?_ <;> (try (intro hn))) | (refine ifB ?_ ?_ <;> (intro hq; try (have hq' := hq; simp only [hqs] at hq'))))
    refine rt1 rfl rfl finS_p (rb ?_)
    exact decide_eq_false fun q => hlm (by rw [q])
instance {l m : List Ent} {ex ey : Bool} : PC Tryz.prog 207 [.p (.sl 4 (l.map eR) ex), .p (.sl 4 (m.map eR) ey)] (l.length ≤ 1000000000) (.p (.b (decide (l = m)))) := ⟨equalE_w l m ex ey⟩
end Go.Proofs.YtclcfjejpogdlaaGreat.Ca
namespace Go.Proofs.YtclcfjejpogdlaaGreat.Ca
open Go Go.RowKit Go.Aw Go.Aw.Cart
set_option linter.unusedVariables false
set_option linter.unusedSimpArgs false
set_option maxRecDepth 8000
set_option maxHeartbeats 4000000
abbrev cL (v : List Int) (l : List Ent) (ex : Bool) : List AC := [.p (.k .u64 (v.getD 0 default)), .p (.k .u64 (v.getD 1 default)), .p (.k .u64 (v.getD 2 default)), .p (.k .u64 (v.getD 3 default)), .p (.k .u64 (v.getD 4 default)), .p (.k .u64 (v.getD 5 default)), .p (.k .u64 (v.getD 6 default)), .p (.k .u64 (v.getD 7 default)), .p (.sl 4 (l.map eR) ex)]
abbrev cV (v : List Int) (l : List Ent) (ex : Bool) : AV := .a (cL v l ex)
theorem v8_eq : ∀ {v : List Int}, v.length = 8 → v = [v.getD 0 default, v.getD 1 default, v.getD 2 default, v.getD 3 default, v.getD 4 default, v.getD 5 default, v.getD 6 default, v.getD 7 default]
  | [a0, a1, a2, a3, a4, a5, a6, a7], _ => rfl
theorem lk_v8 {σ : St} {x : Operand} {v : List Int} (hv : v.length = 8) (h : σ.look x = .a [.p (.k .u64 (v.getD 0 default)), .p (.k .u64 (v.getD 1 default)), .p (.k .u64 (v.getD 2 default)), .p (.k .u64 (v.getD 3 default)), .p (.k .u64 (v.getD 4 default)), .p (.k .u64 (v.getD 5 default)), .p (.k .u64 (v.getD 6 default)), .p (.k .u64 (v.getD 7 default))]) : σ.look x = vV v := by
  rw [h, v8_eq hv]; rfl
theorem lopV {C : Ctx} {o : Oper} {σ : St} {e : Eff} {ro : Nat → Bool} (h : LOp C o σ e ro := by
    first | exact lopY | (apply lop_call2; (focus rfl); (focus exact inferInstance); (focus first | exact lk_v8 (by assumption) rfl | exact lk_v8l rfl); (focus first | exact lk_m1 rfl | exact lk_m2 rfl | exact lk_m3 rfl | exact lk_o rfl | exact lk_a2 rfl | exact lk_a3 rfl | exact lk_a4 rfl | exact lk_a1 rfl | exact lk_a5 rfl | exact lk_a6 rfl | exact lk_a7 rfl | exact lk_a8 rfl | exact lk_a rfl); (focus exact inferInstance); (focus exact inferInstance); (focus first | exact True.intro | assumption | rfl | omega | ((repeat' (first | assumption | refine And.intro ?_ ?_ | omega | rfl)); done) | fail); (focus rfl)) | (apply lop_call1; (focus rfl); (focus exact inferInstance); (focus exact lk_cart rfl); (focus exact inferInstance); (focus exact inferInstance); (focus first | exact True.intro | assumption | rfl | omega | ((repeat' (first | assumption | refine And.intro ?_ ?_ | omega | rfl)); done) | fail); (focus rfl)) | (apply lop_call2; (focus rfl); (focus exact inferInstance); (focus exact lk_cart rfl); (focus first | exact lk_m1 rfl | exact lk_m2 rfl | exact lk_m3 rfl | exact lk_o rfl | exact lk_a2 rfl | exact lk_a3 rfl | exact lk_a4 rfl | exact lk_a1 rfl | exact lk_a5 rfl | exact lk_a6 rfl | exact lk_a7 rfl | exact lk_a8 rfl | exact lk_a rfl); (focus exact inferInstance); (focus exact inferInstance); (focus first | exact True.intro | assumption | rfl | omega | ((repeat' (first | assumption | refine And.intro ?_ ?_ | omega | rfl)); done) | fail); (focus rfl)) | fail) : LOp C o σ e ro := h
/-! dots -/
theorem dOf_w (l : List Dot) (ex : Bool) (h : l.length ≤ 1000000000) : PCall Tryz.prog 266 [.p (.sl 2 (l.map dR) ex)] (.p (.sl 2 ((G.dotsOf l).map dR) false)) := by
  refine pcall_of Tryz.func266 rfl (fun w0 F S0 M0 => ?_)
  haveI : PC Tryz.prog 285 [.p (.fnv 298 [.bx [.sl 2 (l.map dR) ex] 0])] True (.p (.sl 2 ((G.dotsOf l).map dR) false)) := ⟨fun _ => G.set_w _ _ inferInstance l h (iterD_w l ex h)⟩
  repeat' (first | refine rnY ?_ | refine rnSQ ?_ | refine rnG ?_ | refine rnU ?_ | ((fail_if_success (refine rnKn ?_)); refine rnP ?_ ?_ <;> (intro hq; try (have hq' := hq; simp only [hqs] at hq'))) | refine rkY ?_ | refine rkSQ ?_ | refine rkF ?_ | refine rkU ?_ | ((fail_if_success (refine rkKn ?_)); refine rkP ?_ ?_ <;> (intro hq; try (have hq' := hq; simp only [hqs] at hq'))) | refine stp ?_ | refine aws_draws [] mixed (by kernel_rfl) ?_ | refine ifT ?_ | refine ifF ?_ | (refine ifQ ?_ ?_ <;> (try (intro hn))) | (refine ifB ?_ ?_ <;> (intro hq; try (have hq' := hq; simp only [hqs] at hq'))))
  exact rt1 rfl rfl finS_p rfl
instance {l : List Dot} {ex : Bool} : PC Tryz.prog 266 [.p (.sl 2 (l.map dR) ex)] (l.length ≤ 1000000000) (.p (.sl 2 ((G.dotsOf l).map dR) false)) := ⟨dOf_w l ex⟩
end Go.Proofs.YtclcfjejpogdlaaGreat.Ca
