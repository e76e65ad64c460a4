/- carts: values, one behind the other // carts: entries collected, and in order // carts: entries in order; carts: nodes, dots, entries, tallies // carts: the first entry of which something holds // carts: is there an entry of which something holds?; carts: dots as a set; carts: entries without some; carts: entries copied, and without some; carts: tallies // carts: a number's tally -/
import Derived.Test.YtclcfjejpogdlaaGreatPP08
import Derived.Test.YtclcfjejpogdlaaGreatPP09
import Derived.Test.YtclcfjejpogdlaaGreatPP10
namespace Go.Proofs.YtclcfjejpogdlaaGreat.Ca
open Go Go.RowKit Go.Aw Go.Aw.Cart
set_option linter.unusedVariables false
set_option linter.unusedSimpArgs false
set_option maxRecDepth 8000
set_option maxHeartbeats 4000000
theorem valuesD_w (l : List Dot) (ex : Bool) : PCall Tryz.prog 286 [.p (.sl 2 (l.map dR) ex)] (.p (.fnv 298 [.bx [.sl 2 (l.map dR) ex] 0])) := by
  refine pcall_of Tryz.func286 rfl (fun w0 F S0 M0 => ?_)
  repeat' (first | refine rnJ ?_ | refine rnSB ?_ | refine rnG ?_ | refine rnU ?_ | ((fail_if_success (refine rnKn ?_)); refine rnP ?_ ?_ <;> (intro hq; try (have hq' := hq; simp only [hqs] at hq'))) | refine rkJ ?_ | refine rkSB ?_ | refine rkF ?_ | refine rkU ?_ | ((fail_if_success (refine rkKn ?_)); refine rkP ?_ ?_ <;> (intro hq; try (have hq' := hq; simp only [hqs] at hq'))) | refine stp ?_ | refine aws_draws [] mixed (by kernel_rfl) ?_ | refine ifT ?_ | refine ifF ?_ | (refine ifQ ?_ ?_ <;> (try (intro hn))) | (refine ifB ?_ ?_ <;> (intro hq; try (have hq' := hq; simp only [hqs] at hq'))))
  exact rt1 rfl rfl finS_p rfl
instance {l : List Dot} {ex : Bool} : PC Tryz.prog 286 [.p (.sl 2 (l.map dR) ex)] True (.p (.fnv 298 [.bx [.sl 2 (l.map dR) ex] 0])) := ⟨fun _ => valuesD_w l ex⟩
theorem iterD_w (l : List Dot) (ex : Bool) (h : l.length ≤ 1000000000) : ICall Tryz.prog 298 [.bx [.sl 2 (l.map dR) ex] 0] (l.map dV) := by
  refine icall_of Tryz.func298 rfl (fun w0 F S0 M0 I yv hone hY => ?_)
  simp only [List.length_map]
  repeat' (first | refine rnJ ?_ | refine rnSB ?_ | refine rnG ?_ | refine rnU ?_ | ((fail_if_success (refine rnKn ?_)); refine rnP ?_ ?_ <;> (intro hq; try (have hq' := hq; simp only [hqs] at hq'))) | refine rkJ ?_ | refine rkSB ?_ | refine rkF ?_ | refine rkU ?_ | ((fail_if_success (refine rkKn ?_)); refine rkP ?_ ?_ <;> (intro hq; try (have hq' := hq; simp only [hqs] at hq'))) | refine stp ?_ | refine aws_draws [] mixed (by kernel_rfl) ?_ | refine ifT ?_ | refine ifF ?_ | (refine ifQ ?_ ?_ <;> (try (intro hn))) | (refine ifB ?_ ?_ <;> (intro hq; try (have hq' := hq; simp only [hqs] at hq'))))
  refine aws_loopS [4, 7, 8, 9, 10, 11, 12, 13, 14, 15] [1000, 4] (fun (x : Nat × Option MO) => [(7, .p (.i x.1))]) (fun x => [(1000, (1, some (.abs (I x.1)))), (4, (x.1, x.2))])
    (fun x => x.1 ≤ l.length) (fun x => l.length - x.1) (0, none) (Nat.zero_le _) (by exact knA) (by exact knA) ?_
  rintro ⟨i, c4⟩ β γ hi
  simp only at hi
  dsimp only
  by_cases hil : i < l.length
  · have hd : decide ((i : Int) < (l.length : Int)) = true := decide_eq_true (by omega)
    have hy := hY i (dV (l.getD (i : Int).toNat default)) (by rw [Int.toNat_natCast, List.getElem?_map, List.getD_eq_getElem?_getD, List.getElem?_eq_getElem hil]; rfl)
    repeat' (first | refine rnJ ?_ | refine rnSB ?_ | refine rnG ?_ | refine rnU ?_ | ((fail_if_success (refine rnKn ?_)); refine rnP ?_ ?_ <;> (intro hq; try (have hq' := hq; simp only [hqs] at hq'))) | refine rkJ ?_ | refine rkSB ?_ | refine rkF ?_ | refine rkU ?_ | ((fail_if_success (refine rkKn ?_)); refine rkP ?_ ?_ <;> (intro hq; try (have hq' := hq; simp only [hqs] at hq'))) | refine stp ?_ | refine aws_draws [] mixed (by kernel_rfl) ?_ | refine ifT ?_ | refine ifF ?_ | (refine ifQ ?_ ?_ <;> (try (intro hn))) | (refine ifB ?_ ?_ <;> (intro hq; try (have hq' := hq; simp only [hqs] at hq'))))
    exact ⟨(i + 1, some (.box 317 (dL (l.getD (i : Int).toNat default)))), _, by dsimp only; omega, by dsimp only; omega, .refl, by exact frA⟩
  · have hd : decide ((i : Int) < (l.length : Int)) = false := decide_eq_false (by omega)
    obtain rfl : i = l.length := by omega
    repeat' (first | refine rnJ ?_ | refine rnSB ?_ | refine rnG ?_ | refine rnU ?_ | ((fail_if_success (refine rnKn ?_)); refine rnP ?_ ?_ <;> (intro hq; try (have hq' := hq; simp only [hqs] at hq'))) | refine rkJ ?_ | refine rkSB ?_ | refine rkF ?_ | refine rkU ?_ | ((fail_if_success (refine rkKn ?_)); refine rkP ?_ ?_ <;> (intro hq; try (have hq' := hq; simp only [hqs] at hq'))) | refine stp ?_ | refine aws_draws [] mixed (by kernel_rfl) ?_ | refine ifT ?_ | refine ifF ?_ | (refine ifQ ?_ ?_ <;> (try (intro hn))) | (refine ifB ?_ ?_ <;> (intro hq; try (have hq' := hq; simp only [hqs] at hq'))))
    show RetO _ _ _ _ _ .normal _
    exact RetO.mk (res0 rfl rfl) ⟨.abs, trivial⟩
end Go.Proofs.YtclcfjejpogdlaaGreat.Ca
namespace Go.Proofs.YtclcfjejpogdlaaGreat.Ca
open Go Go.RowKit Go.Aw Go.Aw.Cart
set_option linter.unusedVariables false
set_option linter.unusedSimpArgs false
set_option maxRecDepth 8000
set_option maxHeartbeats 4000000
theorem Agr.put' {σ τ : St} {W M : List Nat} {o : Nat} {m : Nat × Option MO} (h : Agr σ W (o :: M) τ) : Agr (σ.put o m) W M (τ.put o m) := ⟨h.env, fun t ht => by
  by_cases e : t = o
  · subst e; simp [St.put]
  · have hb : Nat.beq t o = false := Bool.eq_false_iff.2 (fun k => e (Nat.eq_of_beq_eq_true k))
    have := h.mem t (by simp only [memb, hb, ht, Bool.or_self])
    simp [St.put, e, this]⟩
namespace C5
end C5
open C5
end Go.Proofs.YtclcfjejpogdlaaGreat.Ca
namespace Go.Proofs.YtclcfjejpogdlaaGreat.Ca
open Go Go.RowKit Go.Aw Go.Aw.Cart
set_option linter.unusedVariables false
set_option linter.unusedSimpArgs false
set_option maxRecDepth 8000
set_option maxHeartbeats 4000000
end Go.Proofs.YtclcfjejpogdlaaGreat.Ca
namespace Go.Proofs.YtclcfjejpogdlaaGreat.Ca
open Go Go.RowKit Go.Aw Go.Aw.Cart
set_option linter.unusedVariables false
set_option linter.unusedSimpArgs false
set_option maxRecDepth 8000
set_option maxHeartbeats 4000000
def nodeF (n : Int) : Bool := decide (1 ≤ n ∧ n ≤ 8)
def dotF (d : Dot) : Bool := decide (1 ≤ d.1 ∧ d.1 ≤ 8 ∧ 0 < d.2)
def getF (v : List Int) (n : Int) : Int := if 1 ≤ n ∧ n ≤ 8 then v.getD (n - 1).toNat default else 0
def hasF (v : List Int) (d : Dot) : Bool := dotF d && decide (d.2 ≤ getF v d.1)
def entF (e : Ent) : Bool := decide (1 ≤ e.1 ∧ e.1 ≤ 60 ∧ -1000 ≤ e.2.2.2 ∧ e.2.2.2 ≤ 1000)
abbrev vV (v : List Int) : AV := .a (v.map fun n => .p (.k .u64 n))
theorem isNode_w (n : Int) : PCall Tryz.prog 283 [.p (.i n)] (.p (.b (nodeF n))) := by
  refine pcall_of Tryz.func283 rfl (fun w0 F S0 M0 => ?_)
  unfold nodeF
  repeat' (first | refine rnJ ?_ | refine rnSB ?_ | refine rnG ?_ | refine rnU ?_ | ((fail_if_success (refine rnKn ?_)); refine rnP ?_ ?_ <;> (intro hq; try (have hq' := hq; simp only [hqs] at hq'))) | refine rkJ ?_ | refine rkSB ?_ | refine rkF ?_ | refine rkU ?_ | ((fail_if_success (refine rkKn ?_)); refine rkP ?_ ?_ <;> (intro hq; try (have hq' := hq; simp only [hqs] at hq'))) | refine stp ?_ | refine aws_draws [] mixed (by kernel_rfl) ?_ | refine ifT ?_ | refine ifF ?_ | (refine ifQ ?_ ?_ <;> (try (intro hn))) | (refine ifB ?_ ?_ <;> (intro hq; try (have hq' := hq; simp only [hqs] at hq'))))
  all_goals refine rt1 rfl rfl finS_p (rb ?_)
  all_goals first | exact decide_eq_decide.2 (by omega) | exact decide_eq_true (by omega) | exact decide_eq_false (by omega)
instance {n : Int} : PC Tryz.prog 283 [.p (.i n)] True (.p (.b (nodeF n))) := ⟨fun _ => isNode_w n⟩
theorem dotR_w (d : Dot) : PCall Tryz.prog 263 [dV d] (.p (.b (dotF d))) := by
  refine pcall_of Tryz.func263 rfl (fun w0 F S0 M0 => ?_)
  unfold dotF
  cases h : nodeF d.1 with
  | true =>
    have := of_decide_eq_true h
    repeat' (first | refine rnJ ?_ | refine rnSB ?_ | refine rnG ?_ | refine rnU ?_ | ((fail_if_success (refine rnKn ?_)); refine rnP ?_ ?_ <;> (intro hq; try (have hq' := hq; simp only [hqs] at hq'))) | refine rkJ ?_ | refine rkSB ?_ | refine rkF ?_ | refine rkU ?_ | ((fail_if_success (refine rkKn ?_)); refine rkP ?_ ?_ <;> (intro hq; try (have hq' := hq; simp only [hqs] at hq'))) | refine stp ?_ | refine aws_draws [] mixed (by kernel_rfl) ?_ | refine ifT ?_ | refine ifF ?_ | (refine ifQ ?_ ?_ <;> (try (intro hn))) | (refine ifB ?_ ?_ <;> (intro hq; try (have hq' := hq; simp only [hqs] at hq'))))
    refine rt1 rfl rfl finS_p (rb ?_)
    exact decide_eq_decide.2 (by omega)
  | false =>
    have := of_decide_eq_false h
    repeat' (first | refine rnJ ?_ | refine rnSB ?_ | refine rnG ?_ | refine rnU ?_ | ((fail_if_success (refine rnKn ?_)); refine rnP ?_ ?_ <;> (intro hq; try (have hq' := hq; simp only [hqs] at hq'))) | refine rkJ ?_ | refine rkSB ?_ | refine rkF ?_ | refine rkU ?_ | ((fail_if_success (refine rkKn ?_)); refine rkP ?_ ?_ <;> (intro hq; try (have hq' := hq; simp only [hqs] at hq'))) | refine stp ?_ | refine aws_draws [] mixed (by kernel_rfl) ?_ | refine ifT ?_ | refine ifF ?_ | (refine ifQ ?_ ?_ <;> (try (intro hn))) | (refine ifB ?_ ?_ <;> (intro hq; try (have hq' := hq; simp only [hqs] at hq'))))
    refine rt1 rfl rfl finS_p (rb ?_)
    exact decide_eq_false (by omega)
instance {d : Dot} : PC Tryz.prog 263 [dV d] True (.p (.b (dotF d))) := ⟨fun _ => dotR_w d⟩
theorem get_w (v : List Int) (n : Int) (hv : v.length = 8) : PCall Tryz.prog 264 [vV v, .p (.i n)] (.p (.k .u64 (getF v n))) := by
  refine pcall_of Tryz.func264 rfl (fun w0 F S0 M0 => ?_)
  unfold getF
  by_cases h : 1 ≤ n ∧ n ≤ 8
  · have hn : (!nodeF n) = false := by rw [show nodeF n = true from decide_eq_true h]; rfl
    rw [if_pos h]
    repeat' (first | refine rnJ ?_ | refine rnSB ?_ | refine rnG ?_ | refine rnU ?_ | ((fail_if_success (refine rnKn ?_)); refine rnP ?_ ?_ <;> (intro hq; try (have hq' := hq; simp only [hqs] at hq'))) | refine rkJ ?_ | refine rkSB ?_ | refine rkF ?_ | refine rkU ?_ | ((fail_if_success (refine rkKn ?_)); refine rkP ?_ ?_ <;> (intro hq; try (have hq' := hq; simp only [hqs] at hq'))) | refine stp ?_ | refine aws_draws [] mixed (by kernel_rfl) ?_ | refine ifT ?_ | refine ifF ?_ | (refine ifQ ?_ ?_ <;> (try (intro hn))) | (refine ifB ?_ ?_ <;> (intro hq; try (have hq' := hq; simp only [hqs] at hq'))))
    exact rt1 rfl rfl finS_p rfl
  · have hn : (!nodeF n) = true := by rw [show nodeF n = false from decide_eq_false h]; rfl
    rw [if_neg h]
    repeat' (first | refine rnJ ?_ | refine rnSB ?_ | refine rnG ?_ | refine rnU ?_ | ((fail_if_success (refine rnKn ?_)); refine rnP ?_ ?_ <;> (intro hq; try (have hq' := hq; simp only [hqs] at hq'))) | refine rkJ ?_ | refine rkSB ?_ | refine rkF ?_ | refine rkU ?_ | ((fail_if_success (refine rkKn ?_)); refine rkP ?_ ?_ <;> (intro hq; try (have hq' := hq; simp only [hqs] at hq'))) | refine stp ?_ | refine aws_draws [] mixed (by kernel_rfl) ?_ | refine ifT ?_ | refine ifF ?_ | (refine ifQ ?_ ?_ <;> (try (intro hn))) | (refine ifB ?_ ?_ <;> (intro hq; try (have hq' := hq; simp only [hqs] at hq'))))
    exact rt1 rfl rfl finS_p rfl
instance {v : List Int} {n : Int} : PC Tryz.prog 264 [vV v, .p (.i n)] (v.length = 8) (.p (.k .u64 (getF v n))) := ⟨get_w v n⟩
theorem has_w (v : List Int) (d : Dot) (hv : v.length = 8) : PCall Tryz.prog 243 [vV v, dV d] (.p (.b (hasF v d))) := by
  refine pcall_of Tryz.func243 rfl (fun w0 F S0 M0 => ?_)
  unfold hasF
  cases h : dotF d with
  | true =>
    repeat' (first | refine rnJ ?_ | refine rnSB ?_ | refine rnG ?_ | refine rnU ?_ | ((fail_if_success (refine rnKn ?_)); refine rnP ?_ ?_ <;> (intro hq; try (have hq' := hq; simp only [hqs] at hq'))) | refine rkJ ?_ | refine rkSB ?_ | refine rkF ?_ | refine rkU ?_ | ((fail_if_success (refine rkKn ?_)); refine rkP ?_ ?_ <;> (intro hq; try (have hq' := hq; simp only [hqs] at hq'))) | refine stp ?_ | refine aws_draws [] mixed (by kernel_rfl) ?_ | refine ifT ?_ | refine ifF ?_ | (refine ifQ ?_ ?_ <;> (try (intro hn))) | (refine ifB ?_ ?_ <;> (intro hq; try (have hq' := hq; simp only [hqs] at hq'))))
    exact rt1 rfl rfl finS_p rfl
  | false =>
    repeat' (first | refine rnJ ?_ | refine rnSB ?_ | refine rnG ?_ | refine rnU ?_ | ((fail_if_success (refine rnKn ?_)); refine rnP ?_ ?_ <;> (intro hq; try (have hq' := hq; simp only [hqs] at hq'))) | refine rkJ ?_ | refine rkSB ?_ | refine rkF ?_ | refine rkU ?_ | ((fail_if_success (refine rkKn ?_)); refine rkP ?_ ?_ <;> (intro hq; try (have hq' := hq; simp only [hqs] at hq'))) | refine stp ?_ | refine aws_draws [] mixed (by kernel_rfl) ?_ | refine ifT ?_ | refine ifF ?_ | (refine ifQ ?_ ?_ <;> (try (intro hn))) | (refine ifB ?_ ?_ <;> (intro hq; try (have hq' := hq; simp only [hqs] at hq'))))
    exact rt1 rfl rfl finS_p rfl
instance {v : List Int} {d : Dot} : PC Tryz.prog 243 [vV v, dV d] (v.length = 8) (.p (.b (hasF v d))) := ⟨has_w v d⟩
theorem isEntry_w (e : Ent) : PCall Tryz.prog 242 [eV e] (.p (.b (entF e))) := by
  refine pcall_of Tryz.func242 rfl (fun w0 F S0 M0 => ?_)
  unfold entF
  repeat' (first | refine rnJ ?_ | refine rnSB ?_ | refine rnG ?_ | refine rnU ?_ | ((fail_if_success (refine rnKn ?_)); refine rnP ?_ ?_ <;> (intro hq; try (have hq' := hq; simp only [hqs] at hq'))) | refine rkJ ?_ | refine rkSB ?_ | refine rkF ?_ | refine rkU ?_ | ((fail_if_success (refine rkKn ?_)); refine rkP ?_ ?_ <;> (intro hq; try (have hq' := hq; simp only [hqs] at hq'))) | refine stp ?_ | refine aws_draws [] mixed (by kernel_rfl) ?_ | refine ifT ?_ | refine ifF ?_ | (refine ifQ ?_ ?_ <;> (try (intro hn))) | (refine ifB ?_ ?_ <;> (intro hq; try (have hq' := hq; simp only [hqs] at hq'))))
  all_goals refine rt1 rfl rfl finS_p (rb ?_)
  all_goals first | exact decide_eq_decide.2 (by omega) | exact decide_eq_true (by omega) | exact decide_eq_false (by omega)
instance {e : Ent} : PC Tryz.prog 242 [eV e] True (.p (.b (entF e))) := ⟨fun _ => isEntry_w e⟩
def dotE (e : Ent) : Dot := (e.2.1, e.2.2.1)
theorem dot_w (e : Ent) : PCall Tryz.prog 244 [eV e] (dV (dotE e)) := by
  refine pcall_of Tryz.func244 rfl (fun w0 F S0 M0 => ?_)
  repeat' (first | refine rnJ ?_ | refine rnSB ?_ | refine rnG ?_ | refine rnU ?_ | ((fail_if_success (refine rnKn ?_)); refine rnP ?_ ?_ <;> (intro hq; try (have hq' := hq; simp only [hqs] at hq'))) | refine rkJ ?_ | refine rkSB ?_ | refine rkF ?_ | refine rkU ?_ | ((fail_if_success (refine rkKn ?_)); refine rkP ?_ ?_ <;> (intro hq; try (have hq' := hq; simp only [hqs] at hq'))) | refine stp ?_ | refine aws_draws [] mixed (by kernel_rfl) ?_ | refine ifT ?_ | refine ifF ?_ | (refine ifQ ?_ ?_ <;> (try (intro hn))) | (refine ifB ?_ ?_ <;> (intro hq; try (have hq' := hq; simp only [hqs] at hq'))))
  exact rc1 rfl rfl rfl rfl rfl rfl finL_p rfl
instance {e : Ent} : PC Tryz.prog 244 [eV e] True (dV (dotE e)) := ⟨fun _ => dot_w e⟩
end Go.Proofs.YtclcfjejpogdlaaGreat.Ca
namespace Go.Proofs.YtclcfjejpogdlaaGreat.Ca
open Go Go.RowKit Go.Aw Go.Aw.Cart
set_option linter.unusedVariables false
set_option linter.unusedSimpArgs false
set_option maxRecDepth 8000
set_option maxHeartbeats 4000000
/-- a function's value that tells something of an entry -/
class FP (P : Program) (f : FuncId) (caps : List PVal) (pre : outParam Prop) (p : outParam (Ent → Bool)) : Prop where
  call : pre → ∀ e, PCall P f ([eV e] ++ caps.map .p) (.p (.b (p e)))
namespace C8
end C8
open C8
end Go.Proofs.YtclcfjejpogdlaaGreat.Ca
namespace Go.Proofs.YtclcfjejpogdlaaGreat.Ca
open Go Go.RowKit Go.Aw Go.Aw.Cart
set_option linter.unusedVariables false
set_option linter.unusedSimpArgs false
set_option maxRecDepth 8000
set_option maxHeartbeats 4000000
end Go.Proofs.YtclcfjejpogdlaaGreat.Ca
namespace Go.Proofs.YtclcfjejpogdlaaGreat.Ca
open Go Go.RowKit Go.Aw Go.Aw.Cart
set_option linter.unusedVariables false
set_option linter.unusedSimpArgs false
set_option maxRecDepth 8000
set_option maxHeartbeats 4000000
namespace G
theorem lop_bst2 {C : Ctx} {o : Oper} {σ : St} {T e : TypeId} {x0 : Operand} {sz by_ es be : Nat} {ke : TK} {z : List Value} {p0 p1 : PVal} (ho : o.op = .buildSlice T 1 #[(0, x0)]) (hT : TI C.P T (.slice e) sz by_) (he : TI C.P e ke es be) (hz : TZ C.P e z) (h0 : σ.look x0 = .a [.p p0, .p p1]) (hes : es = 2) (hd : dOk C o.dst = true) :
    LOp C o σ ⟨.p (.sl es [[p0, p1]] true), []⟩ (fun _ => false) := by
  subst hes
  exact lop_buildSlice (ps := [(0, [p0, p1])]) ho (.cons ⟨rfl, by simp, _, h0, by simp [SV.cells]⟩ .nil) rfl (by omega) (by omega) hd
theorem lopC {C : Ctx} {o : Oper} {σ : St} {e : Eff} {ro : Nat → Bool} (h : LOp C o σ e ro := by
    first | (apply lop_bst2; (focus rfl); (focus exact inferInstance); (focus exact inferInstance); (focus exact inferInstance); (focus rfl); (focus rfl); (focus rfl)) | exact lopY | fail) : LOp C o σ e ro := h
section steps
variable {C : Ctx} {ops : Array Oper} {o : Oper} {rest : List Oper} {K : St → Prop} {σ : St} {e : Eff} {ro : Nat → Bool} {W : List (Nat × Nat)} {i : Nat}
theorem rnC {d : Nat} (hk : RunN C ops rest K (e.app (some d) σ)) (hg : Guard ops σ o true := by first | exact gd_n rfl rfl | exact gd_t rfl rfl rfl rfl | exact gd_t rfl rfl rfl (by assumption)) (hd : o.dst = some d := by rfl) (h : LOp C o σ e ro := by exact lopC) : RunN C ops (o :: rest) K σ := rn_any hg hd h hk
end steps
instance {c g n len : Nat} {l : List Dot} : OC Tryz.prog 297 [.o (.osl c g 2 0 len)] [(c, (n, some (.buf 317 2 (l.map dR))))] [] (len = l.length ∧ n = g + 1 ∧ l.length ≤ 1000000000) (.o (.osl c g 2 0 (comp l).length)) [(c, (n, some (.buf 317 2 ((comp l).map dR))))] := ⟨fun h => by obtain ⟨rfl, rfl, h⟩ := h; exact (compactD_o g l h).one c⟩
def setTo (l : List Dot) (j : Nat) : List Dot := (l.take j).filter dotF
theorem setTo_succ {l : List Dot} {j : Nat} (h : j < l.length) : setTo l (j + 1) = setTo l j ++ (if dotF (l.getD j default) = true then [l.getD j default] else []) := by
  have e : l.getD j default = l[j] := by rw [List.getD_eq_getElem?_getD, List.getElem?_eq_getElem h]; rfl
  rw [setTo, setTo, List.take_succ_eq_append_getElem h, List.filter_append, e]
  congr 1
  by_cases hx : dotF l[j] = true
  · rw [if_pos hx, List.filter_cons_of_pos hx, List.filter_nil]
  · rw [if_neg hx, List.filter_cons_of_neg hx, List.filter_nil]
theorem setTo_len {l : List Dot} {j : Nat} : (setTo l j).length ≤ l.length := by
  unfold setTo
  exact Nat.le_trans (List.length_filter_le _ _) (by rw [List.length_take]; omega)
/-- as a set -/
def dotsOf (l : List Dot) : List Dot := (comp (sortD (l.filter dotF))).take 2000
theorem set_w (f : FuncId) (caps : List PVal) (hf : FnT Tryz.prog f) (l : List Dot) (h : l.length ≤ 1000000000) (hI : ICall Tryz.prog f caps (l.map dV)) : PCall Tryz.prog 285 [.p (.fnv f caps)] (.p (.sl 2 ((dotsOf l).map dR) false)) := by
  refine pcall_of Tryz.func285 rfl (fun w0 F S0 M0 => ?_)
  repeat' (first | refine rnC ?_ | refine rnSQ ?_ | refine rnG ?_ | refine rnU ?_ | ((fail_if_success (refine rnKn ?_)); refine rnP ?_ ?_ <;> (intro hq; try (have hq' := hq; simp only [hqs] at hq'))) | refine rkC ?_ | refine rkSQ ?_ | refine rkF ?_ | refine rkU ?_ | ((fail_if_success (refine rkKn ?_)); refine rkP ?_ ?_ <;> (intro hq; try (have hq' := hq; simp only [hqs] at hq'))) | refine stp ?_ | refine ifT ?_ | refine ifF ?_ | (refine ifQ ?_ ?_ <;> (try (intro hn))) | (refine ifB ?_ ?_ <;> (intro hq; try (have hq' := hq; simp only [hqs] at hq'))))
  refine aws_says (says_nil_box (p := 3) (o := 900) (ty := 317) (es := 2) rfl rfl (by decide) (by decide)) ?_
  refine aws_block ?_
  refine aws_range (ι := Option MO × Nat × Nat × List Dot) [4, 6, 7, 8, 9, 10, 11, 12] [3, 4, 900] (fun x => [(3, (1, some (.box 320 [.osl 900 x.2.2.1 2 0 x.2.2.2.length]))), (4, (x.2.1, x.1)), (900, (x.2.2.1 + 1, some (.buf 317 2 (x.2.2.2.map dR))))])
    (fun j x => x.2.2.2 = setTo l j ∧ x.2.1 = j ∧ j ≤ l.length) (none, 0, 0, []) rfl hf hI rfl ?_ rfl rfl (fun i => rfl) rfl ⟨rfl, rfl, Nat.zero_le _⟩ (by exact knA) ?_ ?_
  · intro x hx
    simp only [List.mem_map] at hx
    obtain ⟨e, _, rfl⟩ := hx
    exact inferInstance
  · rintro j x hjx ⟨c5, g, k, m⟩ γ w0 F S0 M0 lp R R' ⟨hm, hg, hj⟩
    simp only at hm hg
    have hjn : j < l.length := by
      by_cases hlt : j < l.length
      · exact hlt
      · rw [List.getElem?_map, List.getElem?_eq_none (by omega)] at hjx; cases hjx
    obtain rfl : x = dV (l.getD j default) := by
      rw [List.getElem?_map, List.getElem?_eq_getElem hjn] at hjx
      have e := Option.some.inj hjx
      rw [List.getD_eq_getElem?_getD, List.getElem?_eq_getElem hjn, ← e]; rfl
    have hml : m.length ≤ 1000000000 := by have := setTo_len (l := l) (j := j); rw [hm]; omega
    have hst := setTo_succ hjn
    dsimp only
    subst hg
    generalize hed : l.getD g default = ed at hst ⊢
    repeat' (first | refine rnC ?_ | refine rnSQ ?_ | refine rnG ?_ | refine rnU ?_ | ((fail_if_success (refine rnKn ?_)); refine rnP ?_ ?_ <;> (intro hq; try (have hq' := hq; simp only [hqs] at hq'))) | refine rkC ?_ | refine rkSQ ?_ | refine rkF ?_ | refine rkU ?_ | ((fail_if_success (refine rkKn ?_)); refine rkP ?_ ?_ <;> (intro hq; try (have hq' := hq; simp only [hqs] at hq'))) | refine stp ?_ | refine ifT ?_ | refine ifF ?_ | (refine ifQ ?_ ?_ <;> (try (intro hn))) | (refine ifB ?_ ?_ <;> (intro hq; try (have hq' := hq; simp only [hqs] at hq'))))
    refine ⟨rfl, rfl, ?_⟩
    cases hv : dotF ed with
    | true =>
      rw [if_pos hv] at hst
      repeat' (first | refine rnC ?_ | refine rnSQ ?_ | refine rnG ?_ | refine rnU ?_ | ((fail_if_success (refine rnKn ?_)); refine rnP ?_ ?_ <;> (intro hq; try (have hq' := hq; simp only [hqs] at hq'))) | refine rkC ?_ | refine rkSQ ?_ | refine rkF ?_ | refine rkU ?_ | ((fail_if_success (refine rkKn ?_)); refine rkP ?_ ?_ <;> (intro hq; try (have hq' := hq; simp only [hqs] at hq'))) | refine stp ?_ | refine ifT ?_ | refine ifF ?_ | (refine ifQ ?_ ?_ <;> (try (intro hn))) | (refine ifB ?_ ?_ <;> (intro hq; try (have hq' := hq; simp only [hqs] at hq'))))
      refine ⟨rfl, (some (.box 317 (dL ed)), g + 1, k + 1, m ++ [ed]), _, ⟨by dsimp only; rw [hst, hm], rfl, by omega⟩, .refl, Fr'.mk ?_ (by exact knA) (by exact knA)⟩
      repeat' (first | exact Agr.refl | refine Agr.appg rfl rfl ?_ | refine Agr.appgn rfl ?_ | refine Agr.set rfl ?_ | refine Agr.put rfl ?_ | refine Agr.put' ?_ | refine Agr.fr ?_ (memb_sub rfl) (memb_sub rfl) rfl rfl)
    | false =>
      rw [if_neg (by rw [hv]; simp), List.append_nil] at hst
      repeat' (first | refine rnC ?_ | refine rnSQ ?_ | refine rnG ?_ | refine rnU ?_ | ((fail_if_success (refine rnKn ?_)); refine rnP ?_ ?_ <;> (intro hq; try (have hq' := hq; simp only [hqs] at hq'))) | refine rkC ?_ | refine rkSQ ?_ | refine rkF ?_ | refine rkU ?_ | ((fail_if_success (refine rkKn ?_)); refine rkP ?_ ?_ <;> (intro hq; try (have hq' := hq; simp only [hqs] at hq'))) | refine stp ?_ | refine ifT ?_ | refine ifF ?_ | (refine ifQ ?_ ?_ <;> (try (intro hn))) | (refine ifB ?_ ?_ <;> (intro hq; try (have hq' := hq; simp only [hqs] at hq'))))
      refine ⟨rfl, (some (.box 317 (dL ed)), g + 1, k, m), _, ⟨by dsimp only; rw [hst, hm], rfl, by omega⟩, .refl, Fr'.mk ?_ (by exact knA) (by exact knA)⟩
      repeat' (first | exact Agr.refl | refine Agr.appg rfl rfl ?_ | refine Agr.appgn rfl ?_ | refine Agr.set rfl ?_ | refine Agr.put rfl ?_ | refine Agr.put' ?_ | refine Agr.fr ?_ (memb_sub rfl) (memb_sub rfl) rfl rfl)
  · rintro ⟨c5, g, k, m⟩ γ ⟨hm, hg, hj⟩
    simp only [List.length_map] at hm hg
    subst hg
    have hm' : m = l.filter dotF := by rw [hm, setTo, List.take_length]
    have hml : m.length ≤ 1000000000 := by have := setTo_len (l := l) (j := l.length); rw [hm]; omega
    have hsl : (sortD m).length ≤ 1000000000 := by rw [sortD_len]; exact hml
    have hsl' := sortD_len m
    have hcl := comp_len (sortD m)
    rw [show dotsOf l = (comp (sortD m)).take 2000 by rw [hm']; rfl]
    clear hm hm'
    dsimp only
    by_cases hc : 2000 < (comp (sortD m)).length
    · repeat' (first
    | refine rnC ?_
    | refine rnSQ ?_
    | refine rnG ?_
    | refine rnU ?_
    | ((fail_if_success (refine rnKn ?_)); refine rnP ?_ ?_ <;> (intro hq; try (have hq' := hq; simp only [hqs] at hq')))
    | refine rkC ?_
    | refine rkSQ ?_
    | refine rkF ?_
    | refine rkU ?_
    | ((fail_if_success (refine rkKn ?_)); refine rkP ?_ ?_ <;> (intro hq; try (have hq' := hq; simp only [hqs] at hq')))
    | refine stp ?_
    | refine ifT ?_
    | refine ifF ?_
    | (refine ifQ ?_ ?_ <;> (try (intro hn)))
    | (refine ifB ?_ ?_ <;> (intro hq; try (have hq' := hq; simp only [hqs] at hq'))))
      exact rt1 rfl rfl (.one (finC_take rfl rfl rfl (by omega) (by congr 1; omega))) rfl
    · repeat' (first
    | refine rnC ?_
    | refine rnSQ ?_
    | refine rnG ?_
    | refine rnU ?_
    | ((fail_if_success (refine rnKn ?_)); refine rnP ?_ ?_ <;> (intro hq; try (have hq' := hq; simp only [hqs] at hq')))
    | refine rkC ?_
    | refine rkSQ ?_
    | refine rkF ?_
    | refine rkU ?_
    | ((fail_if_success (refine rkKn ?_)); refine rkP ?_ ?_ <;> (intro hq; try (have hq' := hq; simp only [hqs] at hq')))
    | refine stp ?_
    | refine ifT ?_
    | refine ifF ?_
    | (refine ifQ ?_ ?_ <;> (try (intro hn)))
    | (refine ifB ?_ ?_ <;> (intro hq; try (have hq' := hq; simp only [hqs] at hq'))))
      exact rt1 rfl rfl (.one (finC_take rfl rfl rfl (by omega) (by rw [List.take_of_length_le (by omega), List.take_of_length_le (by omega)]))) rfl
end G
end Go.Proofs.YtclcfjejpogdlaaGreat.Ca
namespace Go.Proofs.YtclcfjejpogdlaaGreat.Ca
open Go Go.RowKit Go.Aw Go.Aw.Cart
set_option linter.unusedVariables false
set_option linter.unusedSimpArgs false
set_option maxRecDepth 8000
set_option maxHeartbeats 4000000
namespace D
end D
end Go.Proofs.YtclcfjejpogdlaaGreat.Ca
namespace Go.Proofs.YtclcfjejpogdlaaGreat.Ca
open Go Go.RowKit Go.Aw Go.Aw.Cart
set_option linter.unusedVariables false
set_option linter.unusedSimpArgs false
set_option maxRecDepth 8000
set_option maxHeartbeats 4000000
namespace D
end D
namespace D2
end D2
end Go.Proofs.YtclcfjejpogdlaaGreat.Ca
namespace Go.Proofs.YtclcfjejpogdlaaGreat.Ca
open Go Go.RowKit Go.Aw Go.Aw.Cart
set_option linter.unusedVariables false
set_option linter.unusedSimpArgs false
set_option maxRecDepth 8000
set_option maxHeartbeats 4000000
end Go.Proofs.YtclcfjejpogdlaaGreat.Ca
namespace Go.Proofs.YtclcfjejpogdlaaGreat.Ca
open Go Go.RowKit Go.Aw Go.Aw.Cart
set_option linter.unusedVariables false
set_option linter.unusedSimpArgs false
set_option maxRecDepth 8000
set_option maxHeartbeats 4000000
namespace CU
end CU
open CU
end Go.Proofs.YtclcfjejpogdlaaGreat.Ca
