/- carts, the laws: fixed calls -/
import Derived.Test.YtbfjcohocedoaaaCaQ
namespace Go.Proofs.Ytbfjcohocedoaaa.Ca
open Go Go.RowKit Go.Aw Go.Aw.Cart Go.Aw.Ord Go.Sort
set_option linter.unusedVariables false
set_option linter.unusedSimpArgs false
set_option maxRecDepth 8000
set_option maxHeartbeats 4000000
def aV : List Int := [2, 3, 0, 0, 0, 0, 0, 0]
def aL : List Ent := [(5, 1, 1, 2), (5, 2, 3, -3), (7, 2, 1, 4)]
theorem aL_up : aL.Pairwise ltE := by
  unfold aL
  simp only [List.pairwise_cons, List.mem_cons, List.not_mem_nil, or_false, forall_eq_or_imp, forall_eq, ltE]
  simp
theorem aL_sort : sortE aL = aL := sortE_id (aL_up.imp fun {a b} k => ltE_as _ _ k)
theorem aL_turn : sortE [(7, 2, 1, 4), (5, 1, 1, 2), (5, 2, 3, -3)] = aL := by
  rw [← aL_sort]
  refine sortE_of ?_
  unfold aL
  exact (List.Perm.swap _ _ _).trans ((List.Perm.swap _ _ _).cons _)
theorem aL_right : rightF aV aL = true := by
  refine rightF_iff.2 ⟨by decide, by decide, by decide⟩
theorem aL_value : valueF aL = [(5, 0), (7, 4)] := by
  rw [valueF_is, itemsF, aL_sort]
  decide
theorem aL_live : (liveF aL).length = 3 := by
  rw [live_set aL (by decide), (setF_full (by decide)).2 (by decide)]; rfl
theorem great_w (v : List Int) (l : List Ent) (ex : Bool) : PCall Try.prog 18 [cV v l ex] (.p (.b (decide (60 < (l.length : Int))))) := by
  refine pcall_of Try.func18 rfl (fun w0 F S0 M0 => ?_)
  repeat' (first
      | refine rnY ?_
      | refine rnSQ ?_
      | refine rnG ?_
      | refine rnU ?_
      | ((fail_if_success (refine rnKn ?_)); refine rnP ?_ ?_ <;> (intro hq; try (have hq' := hq; simp only [hqs] at hq')))
      | refine rkY ?_
      | refine rkSQ ?_
      | refine rkF ?_
      | refine rkU ?_
      | ((fail_if_success (refine rkKn ?_)); refine rkP ?_ ?_ <;> (intro hq; try (have hq' := hq; simp only [hqs] at hq')))
      | refine stp ?_
      | refine aws_draws [] mixed (by kernel_rfl) ?_
      | refine ifT ?_
      | refine ifF ?_
      | (refine ifQ ?_ ?_ <;> (try (intro hn)))
      | (refine ifB ?_ ?_ <;> (intro hq; try (have hq' := hq; simp only [hqs] at hq'))))
  exact rt1 rfl rfl finS_p rfl
instance {v : List Int} {l : List Ent} {ex : Bool} : PC Try.prog 18 [cV v l ex] True (.p (.b (decide (60 < (l.length : Int))))) := ⟨fun _ => great_w v l ex⟩
/-- one entry, to an own slice of entries -/
theorem lop_ap_ent {C : Ctx} {o : Oper} {σ : St} {T e : TypeId} {x y : Operand} {sz by_ es be : Nat} {ke : TK} {l : List Ent} {z : List Value} {ey : Bool} {ob g n len : Nat} {a b c d : Int} (ho : o.op = .call ⟨.builtin .append, #[x, y], #[T, T]⟩) (hT : TI C.P T (.slice e) sz by_) (he : TI C.P e ke es be) (hz : TZ C.P e z) (hx : σ.look x = .o (.osl ob g es 0 len)) (hm : σ.mem ob = (n, some (.buf e es (l.map eR)))) (hn : n = g + 1) (hlr : len = l.length)
    (hy : σ.look y = .p (.sl es [[.i a, .i b, .k .u64 c, .i d]] ey)) (hzl : z.length = es) (h63 : l.length + 1 ≤ maxLen) (hby : (l.length + 1) * be ≤ 140737488355328) (hd : dOk C o.dst = true) :
    LOp C o σ ⟨.o (.osl ob n es 0 (l ++ [(a, b, c, d)]).length), [(ob, (n + 1, some (.buf e es ((l ++ [(a, b, c, d)]).map eR))))]⟩ (fun q => q == ob) := lop_ap_o1 (f := eR) (v := (a, b, c, d)) ho hT he hz hx hm hn hlr hy rfl hzl h63 hby hd
namespace A
theorem lop_bst4x3 {C : Ctx} {o : Oper} {σ : St} {T e : TypeId} {x0 x1 x2 : Operand} {sz by_ es be : Nat} {ke : TK} {z : List Value} {p0 p1 p2 p3 q0 q1 q2 q3 r0 r1 r2 r3 : PVal} (ho : o.op = .buildSlice T 3 #[(0, x0), (1, x1), (2, x2)]) (hT : TI C.P T (.slice e) sz by_) (he : TI C.P e ke es be) (hz : TZ C.P e z) (h0 : σ.look x0 = .a [.p p0, .p p1, .p p2, .p p3]) (h1 : σ.look x1 = .a [.p q0, .p q1, .p q2, .p q3]) (h2 : σ.look x2 = .a [.p r0, .p r1, .p r2, .p r3]) (hes : es = 4) (hd : dOk C o.dst = true) :
    LOp C o σ ⟨.p (.sl es [[p0, p1, p2, p3], [q0, q1, q2, q3], [r0, r1, r2, r3]] true), []⟩ (fun _ => false) := by
  subst hes
  exact lop_buildSlice (ps := [(0, [p0, p1, p2, p3]), (1, [q0, q1, q2, q3]), (2, [r0, r1, r2, r3])]) ho (.cons ⟨rfl, by simp, _, h0, by simp [SV.cells]⟩ (.cons ⟨rfl, by simp, _, h1, by simp [SV.cells]⟩ (.cons ⟨rfl, by simp, _, h2, by simp [SV.cells]⟩ .nil))) rfl (by omega) (by omega) hd
theorem lopC {C : Ctx} {o : Oper} {σ : St} {e : Eff} {ro : Nat → Bool} (h : LOp C o σ e ro := by
    first
      | (apply lop_bst4x3; (focus rfl); (focus exact inferInstance); (focus exact inferInstance); (focus exact inferInstance); (focus rfl); (focus rfl); (focus rfl); (focus rfl); (focus rfl))
      | exact lopV
      | fail) : LOp C o σ e ro := h
section steps
variable {C : Ctx} {ops : Array Oper} {o : Oper} {rest : List Oper} {K : St → Prop} {σ : St} {e : Eff} {ro : Nat → Bool} {W : List (Nat × Nat)} {i : Nat}
theorem rnC {d : Nat} (hk : RunN C ops rest K (e.app (some d) σ)) (hg : Guard ops σ o true := by first | exact gd_n rfl rfl | exact gd_t rfl rfl rfl rfl | exact gd_t rfl rfl rfl (by assumption)) (hd : o.dst = some d := by rfl) (h : LOp C o σ e ro := by exact lopC) : RunN C ops (o :: rest) K σ := rn_any hg hd h hk
theorem rkC {d : Nat} (hk : RunK C ops W (i + 1) rest K (e.app (some d) σ)) (hg : Guard ops σ o true := by first | exact gd_n rfl rfl | exact gd_t rfl rfl rfl rfl | exact gd_t rfl rfl rfl (by assumption)) (hd' : o.dst = some d := by rfl) (hd : dOk C o.dst = true := by rfl) (h : LOp C o σ e ro := by exact lopC)
    (hro : ∀ x, ro x = true → okObj ops W i x = true := by first | exact fun _ => ro_none | exact ro_one rfl | exact ro_one (by kernel_rfl) | exact ro_kIn (by decide)) (hob : ∀ p ∈ e.obj, (i, p.1) ∈ W := by first | exact ob_none | exact ob_one (by decide) | decide) : RunK C ops W i (o :: rest) K σ := rk_wr hg hd' hd h hro hob hk
end steps
end A
open A
end Go.Proofs.Ytbfjcohocedoaaa.Ca
