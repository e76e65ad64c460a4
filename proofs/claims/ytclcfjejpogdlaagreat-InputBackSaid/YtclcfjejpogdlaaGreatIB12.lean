/- carts: of an item, off, equal; tallies; carts: an item's quantity; dots that are live; equal lines; carts: which may be; carts: what they are worth -/
import Derived.Test.YtclcfjejpogdlaaGreatIB11
namespace Go.Proofs.YtclcfjejpogdlaaGreat.Ca
open Go Go.RowKit Go.Aw Go.Aw.Cart
set_option linter.unusedVariables false
set_option linter.unusedSimpArgs false
set_option maxRecDepth 8000
set_option maxHeartbeats 4000000
theorem vEqV (v w : List Int) (hv : v.length = 8) (hw : w.length = 8) : vEqB [.int .u64 (v.getD 0 default), .int .u64 (v.getD 1 default), .int .u64 (v.getD 2 default), .int .u64 (v.getD 3 default), .int .u64 (v.getD 4 default), .int .u64 (v.getD 5 default), .int .u64 (v.getD 6 default), .int .u64 (v.getD 7 default)] [.int .u64 (w.getD 0 default), .int .u64 (w.getD 1 default), .int .u64 (w.getD 2 default), .int .u64 (w.getD 3 default), .int .u64 (w.getD 4 default), .int .u64 (w.getD 5 default), .int .u64 (w.getD 6 default), .int .u64 (w.getD 7 default)] = decide (v = w) := by
  rw [Bool.eq_iff_iff]
  match v, hv, w, hw with
  | [a0, a1, a2, a3, a4, a5, a6, a7], _, [b0, b1, b2, b3, b4, b5, b6, b7], _ => simp [vEqB, vEq]
def sameF (v w : List Int) (l m : List Ent) : Bool := decide (v = w) && decide (l = m)
theorem same_w (v w : List Int) (l m : List Ent) (ex ey : Bool) (hv : v.length = 8) (hw : w.length = 8) (h : l.length ≤ 1000000000) : PCall Tryz.prog 115 [cV v l ex, cV w m ey] (.p (.b (sameF v w l m))) := by
  refine pcall_of Tryz.func115 rfl (fun w0 F S0 M0 => ?_)
  unfold sameF
  have e := vEqV v w hv hw
  cases hh : decide (v = w) with
  | true =>
    rw [hh] at e
    repeat' (first | refine rnY ?_ | refine rnSQ ?_ | refine rnG ?_ | refine rnU ?_ | ((fail_if_success (refine rnKn ?_)); refine rnP ?_ ?_ <;> (intro hq; try (have hq' := hq; simp only [hqs] at hq'))) | refine rkY ?_ | refine rkSQ ?_ | refine rkF ?_ | refine rkU ?_ | ((fail_if_success (refine rkKn ?_)); refine rkP ?_ ?_ <;> (intro hq; try (have hq' := hq; simp only [hqs] at hq'))) | refine stp ?_ | refine aws_draws [] mixed (by kernel_rfl) ?_ | refine ifT ?_ | refine ifF ?_ | (refine ifQ ?_ ?_ <;> (try (intro hn))) | (refine ifB ?_ ?_ <;> (intro hq; try (have hq' := hq; simp only [hqs] at hq'))))
    exact rt1 rfl rfl finS_p rfl
  | false =>
    rw [hh] at e
    repeat' (first | refine rnY ?_ | refine rnSQ ?_ | refine rnG ?_ | refine rnU ?_ | ((fail_if_success (refine rnKn ?_)); refine rnP ?_ ?_ <;> (intro hq; try (have hq' := hq; simp only [hqs] at hq'))) | refine rkY ?_ | refine rkSQ ?_ | refine rkF ?_ | refine rkU ?_ | ((fail_if_success (refine rkKn ?_)); refine rkP ?_ ?_ <;> (intro hq; try (have hq' := hq; simp only [hqs] at hq'))) | refine stp ?_ | refine aws_draws [] mixed (by kernel_rfl) ?_ | refine ifT ?_ | refine ifF ?_ | (refine ifQ ?_ ?_ <;> (try (intro hn))) | (refine ifB ?_ ?_ <;> (intro hq; try (have hq' := hq; simp only [hqs] at hq'))))
    exact rt1 rfl rfl finS_p rfl
end Go.Proofs.YtclcfjejpogdlaaGreat.Ca
namespace Go.Proofs.YtclcfjejpogdlaaGreat.Ca
open Go Go.RowKit Go.Aw Go.Aw.Cart
set_option linter.unusedVariables false
set_option linter.unusedSimpArgs false
set_option maxRecDepth 8000
set_option maxHeartbeats 4000000
/-- one pair, to an own slice of pairs -/
theorem lop_ap_pair {C : Ctx} {o : Oper} {σ : St} {T e : TypeId} {x y : Operand} {sz by_ es be : Nat} {ke : TK} {l : List Dot} {z : List Value} {ey : Bool} {ob g n len : Nat} {a b : Int} (ho : o.op = .call ⟨.builtin .append, #[x, y], #[T, T]⟩) (hT : TI C.P T (.slice e) sz by_) (he : TI C.P e ke es be) (hz : TZ C.P e z) (hx : σ.look x = .o (.osl ob g es 0 len)) (hm : σ.mem ob = (n, some (.buf e es (l.map dR)))) (hn : n = g + 1) (hlr : len = l.length)
    (hy : σ.look y = .p (.sl es [[.i a, .k .u64 b]] ey)) (hzl : z.length = es) (h63 : l.length + 1 ≤ maxLen) (hby : (l.length + 1) * be ≤ 140737488355328) (hd : dOk C o.dst = true) :
    LOp C o σ ⟨.o (.osl ob n es 0 (l ++ [(a, b)]).length), [(ob, (n + 1, some (.buf e es ((l ++ [(a, b)]).map dR))))]⟩ (fun q => q == ob) := lop_ap_o1 (f := dR) (v := (a, b)) ho hT he hz hx hm hn hlr hy rfl hzl h63 hby hd
namespace J
theorem lopC {C : Ctx} {o : Oper} {σ : St} {e : Eff} {ro : Nat → Bool} (h : LOp C o σ e ro := by
    first | (apply G.lop_bst2; (focus rfl); (focus exact inferInstance); (focus exact inferInstance); (focus exact inferInstance); (focus rfl); (focus rfl); (focus rfl)) | (apply lop_ap_pair; (focus rfl); (focus exact inferInstance); (focus exact inferInstance); (focus exact inferInstance); (focus rfl); (focus rfl); (focus rfl); (focus rfl); (focus rfl); (focus rfl); (focus first | (simp only [maxLen, List.length_append, List.length_cons, List.length_nil, List.length_take, List.length_drop, List.length_map]; omega) | omega); (focus first | (simp only [maxLen, List.length_append, List.length_cons, List.length_nil, List.length_take, List.length_drop, List.length_map]; omega) | omega); (focus rfl)) | exact lopV | fail) : LOp C o σ e ro := h
section steps
variable {C : Ctx} {ops : Array Oper} {o : Oper} {rest : List Oper} {K : St → Prop} {σ : St} {e : Eff} {ro : Nat → Bool} {W : List (Nat × Nat)} {i : Nat}
theorem rnC {d : Nat} (hk : RunN C ops rest K (e.app (some d) σ)) (hg : Guard ops σ o true := by first | exact gd_n rfl rfl | exact gd_t rfl rfl rfl rfl | exact gd_t rfl rfl rfl (by assumption)) (hd : o.dst = some d := by rfl) (h : LOp C o σ e ro := by exact lopC) : RunN C ops (o :: rest) K σ := rn_any hg hd h hk
theorem rkC {d : Nat} (hk : RunK C ops W (i + 1) rest K (e.app (some d) σ)) (hg : Guard ops σ o true := by first | exact gd_n rfl rfl | exact gd_t rfl rfl rfl rfl | exact gd_t rfl rfl rfl (by assumption)) (hd' : o.dst = some d := by rfl) (hd : dOk C o.dst = true := by rfl) (h : LOp C o σ e ro := by exact lopC)
    (hro : ∀ x, ro x = true → okObj ops W i x = true := by first | exact fun _ => ro_none | exact ro_one rfl | exact ro_one (by kernel_rfl) | exact ro_kIn (by decide)) (hob : ∀ p ∈ e.obj, (i, p.1) ∈ W := by first | exact ob_none | exact ob_one (by decide) | decide) : RunK C ops W i (o :: rest) K σ := rk_wr hg hd' hd h hro hob hk
end steps
end J
open J
/-- numbers are words, quantities are numbers of 64 bits -/
def QB (e : Ent) : Prop := -9223372036854775808 ≤ e.2.2.2 ∧ e.2.2.2 ≤ 9223372036854775807
/-- the dots of all entries, as a set -/
def liveF (l : List Ent) : List Dot := G.dotsOf (l.map dotE)
theorem live_w (v : List Int) (l : List Ent) (ex : Bool) (h : l.length ≤ 1000000) : PCall Tryz.prog 246 [cV v l ex] (.p (.sl 2 ((liveF l).map dR) false)) := by
  refine pcall_of Tryz.func246 rfl (fun w0 F S0 M0 => ?_)
  repeat' (first | refine rnC ?_ | refine rnSB ?_ | refine rnG ?_ | refine rnU ?_ | ((fail_if_success (refine rnKn ?_)); refine rnP ?_ ?_ <;> (intro hq; try (have hq' := hq; simp only [hqs] at hq'))) | refine rkC ?_ | refine rkSB ?_ | refine rkF ?_ | refine rkU ?_ | ((fail_if_success (refine rkKn ?_)); refine rkP ?_ ?_ <;> (intro hq; try (have hq' := hq; simp only [hqs] at hq'))) | refine stp ?_ | refine ifT ?_ | refine ifF ?_ | (refine ifQ ?_ ?_ <;> (try (intro hn))) | (refine ifB ?_ ?_ <;> (intro hq; try (have hq' := hq; simp only [hqs] at hq'))))
  refine aws_says (says_nil (t := 3) (o := 901) (ty := 317) (es := 2) rfl rfl (by decide)) ?_
  refine aws_loopS [3, 5, 9, 10, 11, 12, 13, 14, 15, 16, 17, 18] [901, 5] (fun (x : Nat × List Dot × Option MO) => [(9, .p (.i x.1)), (3, .o (.osl 901 x.1 2 0 x.2.1.length))]) (fun x => [(901, (x.1 + 1, some (.buf 317 2 (x.2.1.map dR)))), (5, (x.1, x.2.2))])
    (fun x => x.1 ≤ l.length ∧ x.2.1 = (l.take x.1).map dotE) (fun x => l.length - x.1) (0, [], none) ⟨Nat.zero_le _, rfl⟩ (by exact knA) (by exact knA) ?_
  rintro ⟨i, m, c5⟩ β γ ⟨hi, hm⟩
  simp only at hi hm
  have hml : m.length = i := by rw [hm, List.length_map, List.length_take]; omega
  dsimp only
  by_cases hil : i < l.length
  · have hd : decide ((i : Int) < (l.length : Int)) = true := decide_eq_true (by omega)
    as_aux_lemma =>
      repeat' (first | refine rnC ?_ | refine rnSB ?_ | refine rnG ?_ | refine rnU ?_ | ((fail_if_success (refine rnKn ?_)); refine rnP ?_ ?_ <;> (intro hq; try (have hq' := hq; simp only [hqs] at hq'))) | refine rkC ?_ | refine rkSB ?_ | refine rkF ?_ | refine rkU ?_ | ((fail_if_success (refine rkKn ?_)); refine rkP ?_ ?_ <;> (intro hq; try (have hq' := hq; simp only [hqs] at hq'))) | refine stp ?_ | refine ifT ?_ | refine ifF ?_ | (refine ifQ ?_ ?_ <;> (try (intro hn))) | (refine ifB ?_ ?_ <;> (intro hq; try (have hq' := hq; simp only [hqs] at hq'))))
      refine ⟨(i + 1, m ++ [(_, _)], some (.box 289 (eL (l.getD (i : Int).toNat default)))), _, by dsimp only; omega, ⟨by dsimp only; omega, ?_⟩, .refl, by exact frA⟩
      dsimp only
      rw [hm, List.take_succ_eq_append_getElem hil, List.map_append, Int.toNat_natCast, List.getD_eq_getElem?_getD, List.getElem?_eq_getElem hil]; rfl
  · have hd : decide ((i : Int) < (l.length : Int)) = false := decide_eq_false (by omega)
    have hm' : m = l.map dotE := by rw [hm, List.take_of_length_le (by omega)]
    have hml' : m.length ≤ 1000000000 := by omega
    rw [show liveF l = G.dotsOf m by rw [hm']; rfl]
    repeat' (first | refine rnC ?_ | refine rnSB ?_ | refine rnG ?_ | refine rnU ?_ | ((fail_if_success (refine rnKn ?_)); refine rnP ?_ ?_ <;> (intro hq; try (have hq' := hq; simp only [hqs] at hq'))) | refine rkC ?_ | refine rkSB ?_ | refine rkF ?_ | refine rkU ?_ | ((fail_if_success (refine rkKn ?_)); refine rkP ?_ ?_ <;> (intro hq; try (have hq' := hq; simp only [hqs] at hq'))) | refine stp ?_ | refine ifT ?_ | refine ifF ?_ | (refine ifQ ?_ ?_ <;> (try (intro hn))) | (refine ifB ?_ ?_ <;> (intro hq; try (have hq' := hq; simp only [hqs] at hq'))))
    refine rn_says (says_frz (t := 19) (o := 901) rfl rfl rfl (by simp)) rfl ?_
    as_aux_lemma =>
      repeat' (first | refine rnC ?_ | refine rnSB ?_ | refine rnG ?_ | refine rnU ?_ | ((fail_if_success (refine rnKn ?_)); refine rnP ?_ ?_ <;> (intro hq; try (have hq' := hq; simp only [hqs] at hq'))) | refine rkC ?_ | refine rkSB ?_ | refine rkF ?_ | refine rkU ?_ | ((fail_if_success (refine rkKn ?_)); refine rkP ?_ ?_ <;> (intro hq; try (have hq' := hq; simp only [hqs] at hq'))) | refine stp ?_ | refine ifT ?_ | refine ifF ?_ | (refine ifQ ?_ ?_ <;> (try (intro hn))) | (refine ifB ?_ ?_ <;> (intro hq; try (have hq' := hq; simp only [hqs] at hq'))))
      exact rt1 rfl rfl finS_p rfl
instance {v : List Int} {l : List Ent} {ex : Bool} : PC Tryz.prog 246 [cV v l ex] (l.length ≤ 1000000) (.p (.sl 2 ((liveF l).map dR) false)) := ⟨live_w v l ex⟩
end Go.Proofs.YtclcfjejpogdlaaGreat.Ca
namespace Go.Proofs.YtclcfjejpogdlaaGreat.Ca
open Go Go.RowKit Go.Aw Go.Aw.Cart
set_option linter.unusedVariables false
set_option linter.unusedSimpArgs false
set_option maxRecDepth 8000
set_option maxHeartbeats 4000000
open J
def rowOk (v : List Int) (l : List Ent) (i : Nat) : Bool := entF (l.getD i default) && hasF v (dotE (l.getD i default)) && (decide (i = 0) || decide (ordE (l.getD (i - 1) default) (l.getD i default) < 0))
def okTo (v : List Int) (l : List Ent) (k : Nat) : Nat → Bool
  | 0 => true
  | n + 1 => rowOk v l k && okTo v l (k + 1) n
/-- which carts may be -/
def rightF (v : List Int) (l : List Ent) : Bool := decide (l.length ≤ 400) && (okTo v l 0 l.length && decide ((liveF l).length = l.length))
theorem right_w (v : List Int) (l : List Ent) (ex : Bool) (hv : v.length = 8) (h : l.length ≤ 1000000000) : PCall Tryz.prog 203 [cV v l ex] (.p (.b (rightF v l))) := by
  refine pcall_of Tryz.func203 rfl (fun w0 F S0 M0 => ?_)
  unfold rightF
  by_cases h4 : l.length ≤ 400
  · have d0 : decide (400 < (l.length : Int)) = false := decide_eq_false (by omega)
    rw [decide_eq_true h4, Bool.true_and]
    obtain ⟨A, hA⟩ : ∃ A, A = okTo v l 0 l.length := ⟨_, rfl⟩
    rw [← hA]
    repeat' (first | refine rnC ?_ | refine rnSB ?_ | refine rnG ?_ | refine rnU ?_ | ((fail_if_success (refine rnKn ?_)); refine rnP ?_ ?_ <;> (intro hq; try (have hq' := hq; simp only [hqs] at hq'))) | refine rkC ?_ | refine rkSB ?_ | refine rkF ?_ | refine rkU ?_ | ((fail_if_success (refine rkKn ?_)); refine rkP ?_ ?_ <;> (intro hq; try (have hq' := hq; simp only [hqs] at hq'))) | refine stp ?_ | refine aws_draws [] mixed (by kernel_rfl) ?_ | refine ifT ?_ | refine ifF ?_ | (refine ifQ ?_ ?_ <;> (try (intro hn))) | (refine ifB ?_ ?_ <;> (intro hq; try (have hq' := hq; simp only [hqs] at hq'))))
    refine aws_loopS [2, 3, 4, 12, 13, 14, 15, 16, 17, 18, 19, 20, 21, 22, 23, 24, 25, 26, 27, 28, 29, 30, 31, 32, 33, 34, 35, 36, 37, 38, 39, 40, 41, 42, 43] [4] (fun (x : Nat × Option MO) => [(12, .p (.i x.1))]) (fun x => [(4, (x.1, x.2))]) (fun x => x.1 ≤ l.length ∧ A = okTo v l x.1 (l.length - x.1)) (fun x => l.length - x.1) (0, none) ⟨Nat.zero_le _, hA⟩ (by exact knA) (by exact knA) ?_
    rintro ⟨i, c4⟩ β γ ⟨hi, hx⟩
    simp only at hi hx
    dsimp only
    by_cases hil : i < l.length
    · have hlt : decide ((i : Int) < (l.length : Int)) = true := decide_eq_true (by omega)
      rw [show l.length - i = (l.length - (i + 1)) + 1 by omega, okTo, rowOk] at hx
      have ei : (i : Int).toNat = i := Int.toNat_natCast i
      have ep : ((i : Int) - 1).toNat = i - 1 := by omega
      cases he : entF (l.getD (i : Int).toNat default) with
      | false =>
        have he' : (!entF (l.getD (i : Int).toNat default)) = true := by rw [he]; rfl
        rw [ei] at he
        rw [he, Bool.false_and, Bool.false_and, Bool.false_and] at hx
        rw [hx]
        as_aux_lemma =>
          repeat' (first | refine rnC ?_ | refine rnSB ?_ | refine rnG ?_ | refine rnU ?_ | ((fail_if_success (refine rnKn ?_)); refine rnP ?_ ?_ <;> (intro hq; try (have hq' := hq; simp only [hqs] at hq'))) | refine rkC ?_ | refine rkSB ?_ | refine rkF ?_ | refine rkU ?_ | ((fail_if_success (refine rkKn ?_)); refine rkP ?_ ?_ <;> (intro hq; try (have hq' := hq; simp only [hqs] at hq'))) | refine stp ?_ | refine aws_draws [] mixed (by kernel_rfl) ?_ | refine ifT ?_ | refine ifF ?_ | (refine ifQ ?_ ?_ <;> (try (intro hn))) | (refine ifB ?_ ?_ <;> (intro hq; try (have hq' := hq; simp only [hqs] at hq'))))
          exact rt1 rfl rfl finS_p rfl
      | true =>
        have he' : (!entF (l.getD (i : Int).toNat default)) = false := by rw [he]; rfl
        rw [ei] at he
        cases hh : hasF v (dotE (l.getD (i : Int).toNat default)) with
        | false =>
          have hh' : (!hasF v (dotE (l.getD (i : Int).toNat default))) = true := by rw [hh]; rfl
          rw [ei] at hh
          rw [hh, Bool.and_false, Bool.false_and, Bool.false_and] at hx
          rw [hx]
          as_aux_lemma =>
            repeat' (first | refine rnC ?_ | refine rnSB ?_ | refine rnG ?_ | refine rnU ?_ | ((fail_if_success (refine rnKn ?_)); refine rnP ?_ ?_ <;> (intro hq; try (have hq' := hq; simp only [hqs] at hq'))) | refine rkC ?_ | refine rkSB ?_ | refine rkF ?_ | refine rkU ?_ | ((fail_if_success (refine rkKn ?_)); refine rkP ?_ ?_ <;> (intro hq; try (have hq' := hq; simp only [hqs] at hq'))) | refine stp ?_ | refine aws_draws [] mixed (by kernel_rfl) ?_ | refine ifT ?_ | refine ifF ?_ | (refine ifQ ?_ ?_ <;> (try (intro hn))) | (refine ifB ?_ ?_ <;> (intro hq; try (have hq' := hq; simp only [hqs] at hq'))))
            exact rt1 rfl rfl finS_p rfl
        | true =>
          have hh' : (!hasF v (dotE (l.getD (i : Int).toNat default))) = false := by rw [hh]; rfl
          rw [ei] at hh
          rw [he, hh, Bool.true_and, Bool.true_and] at hx
          by_cases h0 : i = 0
          · have d3 : decide (0 < (i : Int)) = false := decide_eq_false (by omega)
            rw [decide_eq_true h0, Bool.true_or, Bool.true_and] at hx
            as_aux_lemma =>
              repeat' (first | refine rnC ?_ | refine rnSB ?_ | refine rnG ?_ | refine rnU ?_ | ((fail_if_success (refine rnKn ?_)); refine rnP ?_ ?_ <;> (intro hq; try (have hq' := hq; simp only [hqs] at hq'))) | refine rkC ?_ | refine rkSB ?_ | refine rkF ?_ | refine rkU ?_ | ((fail_if_success (refine rkKn ?_)); refine rkP ?_ ?_ <;> (intro hq; try (have hq' := hq; simp only [hqs] at hq'))) | refine stp ?_ | refine aws_draws [] mixed (by kernel_rfl) ?_ | refine ifT ?_ | refine ifF ?_ | (refine ifQ ?_ ?_ <;> (try (intro hn))) | (refine ifB ?_ ?_ <;> (intro hq; try (have hq' := hq; simp only [hqs] at hq'))))
              exact ⟨(i + 1, some (.box 289 (eL (l.getD (i : Int).toNat default)))), _, by dsimp only; omega, ⟨by dsimp only; omega, by dsimp only; exact hx⟩, .refl, by exact frA⟩
          · have d3 : decide (0 < (i : Int)) = true := decide_eq_true (by omega)
            rw [decide_eq_false h0, Bool.false_or] at hx
            by_cases ho : ordE (l.getD ((i : Int) - 1).toNat default) (l.getD (i : Int).toNat default) < 0
            · have d4 : decide (0 ≤ ordE (l.getD ((i : Int) - 1).toNat default) (l.getD (i : Int).toNat default)) = false := decide_eq_false (by omega)
              rw [ei, ep] at ho
              rw [decide_eq_true ho, Bool.true_and] at hx
              as_aux_lemma =>
                repeat' (first | refine rnC ?_ | refine rnSB ?_ | refine rnG ?_ | refine rnU ?_ | ((fail_if_success (refine rnKn ?_)); refine rnP ?_ ?_ <;> (intro hq; try (have hq' := hq; simp only [hqs] at hq'))) | refine rkC ?_ | refine rkSB ?_ | refine rkF ?_ | refine rkU ?_ | ((fail_if_success (refine rkKn ?_)); refine rkP ?_ ?_ <;> (intro hq; try (have hq' := hq; simp only [hqs] at hq'))) | refine stp ?_ | refine aws_draws [] mixed (by kernel_rfl) ?_ | refine ifT ?_ | refine ifF ?_ | (refine ifQ ?_ ?_ <;> (try (intro hn))) | (refine ifB ?_ ?_ <;> (intro hq; try (have hq' := hq; simp only [hqs] at hq'))))
                exact ⟨(i + 1, some (.box 289 (eL (l.getD (i : Int).toNat default)))), _, by dsimp only; omega, ⟨by dsimp only; omega, by dsimp only; exact hx⟩, .refl, by exact frA⟩
            · have d4 : decide (0 ≤ ordE (l.getD ((i : Int) - 1).toNat default) (l.getD (i : Int).toNat default)) = true := decide_eq_true (by omega)
              rw [ei, ep] at ho
              rw [decide_eq_false ho, Bool.false_and] at hx
              rw [hx]
              as_aux_lemma =>
                repeat' (first | refine rnC ?_ | refine rnSB ?_ | refine rnG ?_ | refine rnU ?_ | ((fail_if_success (refine rnKn ?_)); refine rnP ?_ ?_ <;> (intro hq; try (have hq' := hq; simp only [hqs] at hq'))) | refine rkC ?_ | refine rkSB ?_ | refine rkF ?_ | refine rkU ?_ | ((fail_if_success (refine rkKn ?_)); refine rkP ?_ ?_ <;> (intro hq; try (have hq' := hq; simp only [hqs] at hq'))) | refine stp ?_ | refine aws_draws [] mixed (by kernel_rfl) ?_ | refine ifT ?_ | refine ifF ?_ | (refine ifQ ?_ ?_ <;> (try (intro hn))) | (refine ifB ?_ ?_ <;> (intro hq; try (have hq' := hq; simp only [hqs] at hq'))))
                exact rt1 rfl rfl finS_p rfl
    · have hlt : decide ((i : Int) < (l.length : Int)) = false := decide_eq_false (by omega)
      rw [show l.length - i = 0 by omega, okTo] at hx
      rw [hx]
      as_aux_lemma =>
        repeat' (first | refine rnC ?_ | refine rnSB ?_ | refine rnG ?_ | refine rnU ?_ | ((fail_if_success (refine rnKn ?_)); refine rnP ?_ ?_ <;> (intro hq; try (have hq' := hq; simp only [hqs] at hq'))) | refine rkC ?_ | refine rkSB ?_ | refine rkF ?_ | refine rkU ?_ | ((fail_if_success (refine rkKn ?_)); refine rkP ?_ ?_ <;> (intro hq; try (have hq' := hq; simp only [hqs] at hq'))) | refine stp ?_ | refine aws_draws [] mixed (by kernel_rfl) ?_ | refine ifT ?_ | refine ifF ?_ | (refine ifQ ?_ ?_ <;> (try (intro hn))) | (refine ifB ?_ ?_ <;> (intro hq; try (have hq' := hq; simp only [hqs] at hq'))))
        refine rt1 rfl rfl finS_p (rb ?_)
        rw [Bool.true_and]
        exact decide_eq_decide.2 (by omega)
  · have d0 : decide (400 < (l.length : Int)) = true := decide_eq_true (by omega)
    rw [decide_eq_false h4, Bool.false_and]
    as_aux_lemma =>
      repeat' (first | refine rnC ?_ | refine rnSB ?_ | refine rnG ?_ | refine rnU ?_ | ((fail_if_success (refine rnKn ?_)); refine rnP ?_ ?_ <;> (intro hq; try (have hq' := hq; simp only [hqs] at hq'))) | refine rkC ?_ | refine rkSB ?_ | refine rkF ?_ | refine rkU ?_ | ((fail_if_success (refine rkKn ?_)); refine rkP ?_ ?_ <;> (intro hq; try (have hq' := hq; simp only [hqs] at hq'))) | refine stp ?_ | refine aws_draws [] mixed (by kernel_rfl) ?_ | refine ifT ?_ | refine ifF ?_ | (refine ifQ ?_ ?_ <;> (try (intro hn))) | (refine ifB ?_ ?_ <;> (intro hq; try (have hq' := hq; simp only [hqs] at hq'))))
      exact rt1 rfl rfl finS_p rfl
end Go.Proofs.YtclcfjejpogdlaaGreat.Ca
namespace Go.Proofs.YtclcfjejpogdlaaGreat.Ca
open Go Go.RowKit Go.Aw Go.Aw.Cart
set_option linter.unusedVariables false
set_option linter.unusedSimpArgs false
set_option maxRecDepth 8000
set_option maxHeartbeats 4000000
open J
end Go.Proofs.YtclcfjejpogdlaaGreat.Ca
