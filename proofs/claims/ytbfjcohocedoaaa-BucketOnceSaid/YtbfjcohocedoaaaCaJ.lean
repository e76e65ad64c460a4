/- carts: an item's quantity; dots that are live; equal lines -/
import Derived.Test.YtbfjcohocedoaaaCaI
namespace Go.Proofs.Ytbfjcohocedoaaa.Ca
open Go Go.RowKit Go.Aw Go.Aw.Cart
set_option linter.unusedVariables false
set_option linter.unusedSimpArgs false
set_option maxRecDepth 8000
set_option maxHeartbeats 4000000
/-- one pair, to an own slice of pairs -/
theorem lop_ap_pair {C : Ctx} {o : Oper} {σ : St} {T e : TypeId} {x y : Operand} {sz by_ es be : Nat} {ke : TK} {l : List Dot} {z : List Value} {ey : Bool} {ob g n len : Nat} {a b : Int} (ho : o.op = .call ⟨.builtin .append, #[x, y], #[T, T]⟩) (hT : TI C.P T (.slice e) sz by_) (he : TI C.P e ke es be) (hz : TZ C.P e z) (hx : σ.look x = .o (.osl ob g es 0 len)) (hm : σ.mem ob = (n, some (.buf e es (l.map dR)))) (hn : n = g + 1) (hlr : len = l.length)
    (hy : σ.look y = .p (.sl es [[.i a, .k .u64 b]] ey)) (hzl : z.length = es) (h63 : l.length + 1 ≤ maxLen) (hby : (l.length + 1) * be ≤ 140737488355328) (hd : dOk C o.dst = true) :
    LOp C o σ ⟨.o (.osl ob n es 0 (l ++ [(a, b)]).length), [(ob, (n + 1, some (.buf e es ((l ++ [(a, b)]).map dR))))]⟩ (fun q => q == ob) := lop_ap_o1 (f := dR) (v := (a, b)) ho hT he hz hx hm hn hlr hy rfl hzl h63 hby hd
namespace J
theorem lopC {C : Ctx} {o : Oper} {σ : St} {e : Eff} {ro : Nat → Bool} (h : LOp C o σ e ro := by
    first
      | (apply G.lop_bst2; (focus rfl); (focus exact inferInstance); (focus exact inferInstance); (focus exact inferInstance); (focus rfl); (focus rfl); (focus rfl))
      | (apply lop_bst4; (focus rfl); (focus exact inferInstance); (focus exact inferInstance); (focus exact inferInstance); (focus rfl); (focus rfl); (focus rfl))
      | (apply lop_ap_pair; (focus rfl); (focus exact inferInstance); (focus exact inferInstance); (focus exact inferInstance); (focus rfl); (focus rfl); (focus rfl); (focus rfl); (focus rfl); (focus rfl); (focus first | (simp only [maxLen, List.length_append, List.length_cons, List.length_nil, List.length_take, List.length_drop, List.length_map]; omega) | omega); (focus first | (simp only [maxLen, List.length_append, List.length_cons, List.length_nil, List.length_take, List.length_drop, List.length_map]; omega) | omega); (focus rfl))
      | exact lopV
      | fail) : LOp C o σ e ro := h
section steps
variable {C : Ctx} {ops : Array Oper} {o : Oper} {rest : List Oper} {K : St → Prop} {σ : St} {e : Eff} {ro : Nat → Bool} {W : List (Nat × Nat)} {i : Nat}
theorem rnC {d : Nat} (hk : RunN C ops rest K (e.app (some d) σ)) (hg : Guard ops σ o true := by first | exact gd_n rfl rfl | exact gd_t rfl rfl rfl rfl | exact gd_t rfl rfl rfl (by assumption)) (hd : o.dst = some d := by rfl) (h : LOp C o σ e ro := by exact lopC) : RunN C ops (o :: rest) K σ := rn_any hg hd h hk
theorem rkC {d : Nat} (hk : RunK C ops W (i + 1) rest K (e.app (some d) σ)) (hg : Guard ops σ o true := by first | exact gd_n rfl rfl | exact gd_t rfl rfl rfl rfl | exact gd_t rfl rfl rfl (by assumption)) (hd' : o.dst = some d := by rfl) (hd : dOk C o.dst = true := by rfl) (h : LOp C o σ e ro := by exact lopC)
    (hro : ∀ x, ro x = true → okObj ops W i x = true := by first | exact fun _ => ro_none | exact ro_one rfl | exact ro_one (by kernel_rfl) | exact ro_kIn (by decide)) (hob : ∀ p ∈ e.obj, (i, p.1) ∈ W := by first | exact ob_none | exact ob_one (by decide) | decide) : RunK C ops W i (o :: rest) K σ := rk_wr hg hd' hd h hro hob hk
end steps
end J
open J
/-- numbers are words, quantities are numbers of 64 bits -/
def QB (e : Ent) : Prop := -9223372036854775808 ≤ e.2.2.2 ∧ e.2.2.2 ≤ 9223372036854775807
def tTo (m : List Ent) : Nat → Int × Int
  | 0 => (0, 0)
  | i + 1 => addF (tTo m i) (m.getD i default).2.2.2
theorem tTo_in (m : List Ent) : ∀ i, 0 ≤ (tTo m i).1 ∧ (tTo m i).1 ≤ 4611686018427387904 ∧ 0 ≤ (tTo m i).2 ∧ (tTo m i).2 ≤ 4611686018427387904
  | 0 => by simp [tTo]
  | i + 1 => by
    obtain ⟨h1, h2, h3, h4⟩ := tTo_in m i
    have k : 0 ≤ (ofT (m.getD i default).2.2.2).1 ∧ 0 ≤ (ofT (m.getD i default).2.2.2).2 := by unfold ofT; split <;> (simp only; omega)
    have g1 := mnF_in h1
    have g2 := mnF_in h3
    have g3 := mnF_in k.1
    have g4 := mnF_in k.2
    simp only [tTo, addF, plusF, moreF]
    obtain ⟨a1, a2⟩ := mnF_in (a := mnF (tTo m i).1 + mnF (ofT (m.getD i default).2.2.2).1) (by omega)
    obtain ⟨a3, a4⟩ := mnF_in (a := mnF (tTo m i).2 + mnF (ofT (m.getD i default).2.2.2).2) (by omega)
    exact ⟨a1, a2, a3, a4⟩
/-- an item's quantity -/
def getQ (l : List Ent) (item : Int) : Int := valF (tTo (ofF l item) (ofF l item).length)
theorem ofF_len (l : List Ent) (item : Int) : (ofF l item).length ≤ l.length := List.length_filter_le _ _
theorem ofF_mem {l : List Ent} {item : Int} {e : Ent} : e ∈ ofF l item ↔ e ∈ l ∧ e.1 = item := by simp [ofF]
theorem getD_in {α : Type} [Inhabited α] {p : α → Prop} {l : List α} (h : ∀ e ∈ l, p e) {i : Nat} (hi : i < l.length) : p (l.getD i default) := by
  rw [List.getD_eq_getElem?_getD, List.getElem?_eq_getElem hi]; exact h _ (List.getElem_mem _)
/-- the dots of all entries, as a set -/
def liveF (l : List Ent) : List Dot := G.dotsOf (l.map dotE)
theorem live_w (v : List Int) (l : List Ent) (ex : Bool) (h : l.length ≤ 1000000) : PCall Try.prog 45 [cV v l ex] (.p (.sl 2 ((liveF l).map dR) false)) := by
  refine pcall_of Try.func45 rfl (fun w0 F S0 M0 => ?_)
  repeat' (first
      | refine rnC ?_
      | refine rnSB ?_
      | refine rnG ?_
      | refine rnU ?_
      | ((fail_if_success (refine rnKn ?_)); refine rnP ?_ ?_ <;> (intro hq; try (have hq' := hq; simp only [hqs] at hq')))
      | refine rkC ?_
      | refine rkSB ?_
      | refine rkF ?_
      | refine rkU ?_
      | ((fail_if_success (refine rkKn ?_)); refine rkP ?_ ?_ <;> (intro hq; try (have hq' := hq; simp only [hqs] at hq')))
      | refine stp ?_
      | refine ifT ?_
      | refine ifF ?_
      | (refine ifQ ?_ ?_ <;> (try (intro hn)))
      | (refine ifB ?_ ?_ <;> (intro hq; try (have hq' := hq; simp only [hqs] at hq'))))
  refine aws_says (says_nil (t := 3) (o := 901) (ty := 83) (es := 2) rfl rfl (by decide)) ?_
  refine aws_loopS [3, 5, 9, 10, 11, 12, 13, 14, 15, 16, 17, 18] [901, 5] (fun (x : Nat × List Dot × Option MO) => [(9, .p (.i x.1)), (3, .o (.osl 901 x.1 2 0 x.2.1.length))]) (fun x => [(901, (x.1 + 1, some (.buf 83 2 (x.2.1.map dR)))), (5, (x.1, x.2.2))])
    (fun x => x.1 ≤ l.length ∧ x.2.1 = (l.take x.1).map dotE) (fun x => l.length - x.1) (0, [], none) ⟨Nat.zero_le _, rfl⟩ (by exact knA) (by exact knA) ?_
  rintro ⟨i, m, c5⟩ β γ ⟨hi, hm⟩
  simp only at hi hm
  have hml : m.length = i := by rw [hm, List.length_map, List.length_take]; omega
  dsimp only
  by_cases hil : i < l.length
  · have hd : decide ((i : Int) < (l.length : Int)) = true := decide_eq_true (by omega)
    as_aux_lemma =>
      repeat' (first
          | refine rnC ?_
          | refine rnSB ?_
          | refine rnG ?_
          | refine rnU ?_
          | ((fail_if_success (refine rnKn ?_)); refine rnP ?_ ?_ <;> (intro hq; try (have hq' := hq; simp only [hqs] at hq')))
          | refine rkC ?_
          | refine rkSB ?_
          | refine rkF ?_
          | refine rkU ?_
          | ((fail_if_success (refine rkKn ?_)); refine rkP ?_ ?_ <;> (intro hq; try (have hq' := hq; simp only [hqs] at hq')))
          | refine stp ?_
          | refine ifT ?_
          | refine ifF ?_
          | (refine ifQ ?_ ?_ <;> (try (intro hn)))
          | (refine ifB ?_ ?_ <;> (intro hq; try (have hq' := hq; simp only [hqs] at hq'))))
      refine ⟨(i + 1, m ++ [(_, _)], some (.box 63 (eL (l.getD (i : Int).toNat default)))), _, by dsimp only; omega, ⟨by dsimp only; omega, ?_⟩, .refl, by exact frA⟩
      dsimp only
      rw [hm, List.take_succ_eq_append_getElem hil, List.map_append, Int.toNat_natCast, List.getD_eq_getElem?_getD, List.getElem?_eq_getElem hil]; rfl
  · have hd : decide ((i : Int) < (l.length : Int)) = false := decide_eq_false (by omega)
    have hm' : m = l.map dotE := by rw [hm, List.take_of_length_le (by omega)]
    have hml' : m.length ≤ 1000000000 := by omega
    rw [show liveF l = G.dotsOf m by rw [hm']; rfl]
    repeat' (first
        | refine rnC ?_
        | refine rnSB ?_
        | refine rnG ?_
        | refine rnU ?_
        | ((fail_if_success (refine rnKn ?_)); refine rnP ?_ ?_ <;> (intro hq; try (have hq' := hq; simp only [hqs] at hq')))
        | refine rkC ?_
        | refine rkSB ?_
        | refine rkF ?_
        | refine rkU ?_
        | ((fail_if_success (refine rkKn ?_)); refine rkP ?_ ?_ <;> (intro hq; try (have hq' := hq; simp only [hqs] at hq')))
        | refine stp ?_
        | refine ifT ?_
        | refine ifF ?_
        | (refine ifQ ?_ ?_ <;> (try (intro hn)))
        | (refine ifB ?_ ?_ <;> (intro hq; try (have hq' := hq; simp only [hqs] at hq'))))
    refine rn_says (says_frz (t := 19) (o := 901) rfl rfl rfl (by simp)) rfl ?_
    as_aux_lemma =>
      repeat' (first
          | refine rnC ?_
          | refine rnSB ?_
          | refine rnG ?_
          | refine rnU ?_
          | ((fail_if_success (refine rnKn ?_)); refine rnP ?_ ?_ <;> (intro hq; try (have hq' := hq; simp only [hqs] at hq')))
          | refine rkC ?_
          | refine rkSB ?_
          | refine rkF ?_
          | refine rkU ?_
          | ((fail_if_success (refine rkKn ?_)); refine rkP ?_ ?_ <;> (intro hq; try (have hq' := hq; simp only [hqs] at hq')))
          | refine stp ?_
          | refine ifT ?_
          | refine ifF ?_
          | (refine ifQ ?_ ?_ <;> (try (intro hn)))
          | (refine ifB ?_ ?_ <;> (intro hq; try (have hq' := hq; simp only [hqs] at hq'))))
      exact rt1 rfl rfl finS_p rfl
instance {v : List Int} {l : List Ent} {ex : Bool} : PC Try.prog 45 [cV v l ex] (l.length ≤ 1000000) (.p (.sl 2 ((liveF l).map dR) false)) := ⟨live_w v l ex⟩
end Go.Proofs.Ytbfjcohocedoaaa.Ca
