/- packs: a cart's bytes, written; packs: a cart read; packs: a cart read, whole; packs in plain Lean: lists of carts by keys: their order, what is found, what another cart makes of them -/
import Derived.Test.YtclcfjejpogdlaaGreatCS26
import Derived.Test.YtclcfjejpogdlaaGreatCS24
namespace Go.Proofs.YtclcfjejpogdlaaGreat.Wi
open Go Go.RowKit Go.Aw Go.Aw.Cart Go.Proofs.YtclcfjejpogdlaaGreat.Ca
set_option linter.unusedVariables false
set_option linter.unusedSimpArgs false
set_option maxRecDepth 8000
set_option maxHeartbeats 4000000
/-- a new writer, as one object -/
theorem says_wr0 {C : Ctx} {σ : St} {p np ty tyB es : Nat} (hp : σ.mem p = (np, some (.box ty [.p (.v (.slice none 0 0))]))) (hes : 0 < es) : Says C σ (σ.put p (np, some (.abs (pkA ty [] [] tyB es [])))) := by
  rintro a w ⟨G, h⟩
  obtain ⟨g, m, hg, hmm, b, arr, h1, h2, h3, h4⟩ := h.mem p _ _ hp
  have hlen : (G.μ p).length = np := by have := h.gens p; rw [hp] at this; exact this
  refine ⟨_, h.upd (o := p) (n' := np) (mo' := some (.abs (pkA ty [] [] tyB es []))) (μo := G.μ p) (fp' := G.φ p) (w' := w) (fun g x hx => hx) hlen rfl .same rfl (Nat.le_refl _) (fun _ _ _ => rfl) (fun b hb => ⟨.inl hb, (h.own p b hb).2⟩) (fun mo1 hmo => ?_)⟩
  obtain rfl := Option.some.inj hmo
  obtain ⟨x, l, rfl, k1, k2⟩ := h4.cons_inv
  obtain rfl := k2.nil_inv
  obtain ⟨rfl, _⟩ := k1
  exact ⟨g, m, hg, hmm, b, h1, none, 0, [], [], [], h3, h2, by simp, .nil, .nil, hes, by simp [maxLen], Nat.le_refl _, .inl ⟨rfl, rfl, rfl⟩⟩
theorem says_wr {C : Ctx} {σ : St} {p np : Nat} (hp : σ.mem p = (np, some (.box 175 [.p (.v (.slice none 0 0))]))) : Says C σ (σ.put p (np, some (.abs (wrA [])))) := says_wr0 hp (by decide)
abbrev v8L (v : List Int) : List AC := [.p (.k .u64 (v.getD 0 default)), .p (.k .u64 (v.getD 1 default)), .p (.k .u64 (v.getD 2 default)), .p (.k .u64 (v.getD 3 default)), .p (.k .u64 (v.getD 4 default)), .p (.k .u64 (v.getD 5 default)), .p (.k .u64 (v.getD 6 default)), .p (.k .u64 (v.getD 7 default))]
theorem vV8 {v : List Int} (h : v.length = 8) : vV v = .a (v8L v) := by
  show AV.a (v.map _) = _
  conv => lhs; rw [v8_eq h]
  rfl
namespace W7
theorem lopC {C : Ctx} {o : Oper} {σ : St} {e : Eff} {ro : Nat → Bool} (h : LOp C o σ e ro := by
    first
      | exact lopV
      | exact W6.lopC
      | (apply lop_call1; (focus rfl); (focus exact inferInstance); (focus exact lk_cart rfl); (focus exact inferInstance); (focus exact inferInstance); (focus first | exact True.intro | assumption | rfl | omega | ((repeat' (first | assumption | refine And.intro ?_ ?_ | omega | rfl)); done) | fail); (focus rfl))
            | (apply lop_call2; (focus rfl); (focus exact inferInstance); (focus exact lk_cart rfl); (focus exact lk_cart rfl); (focus exact inferInstance); (focus exact inferInstance); (focus first | exact True.intro | assumption | rfl | omega | ((repeat' (first | assumption | refine And.intro ?_ ?_ | omega | rfl)); done) | fail); (focus rfl))
            | (apply lop_call2; (focus rfl); (focus exact inferInstance); (focus exact lk_cart rfl); (focus first | exact lk_m1 rfl | exact lk_m2 rfl | exact lk_m3 rfl | exact lk_o rfl | exact lk_a2 rfl | exact lk_a3 rfl | exact lk_a4 rfl | exact lk_a1 rfl | exact lk_a5 rfl | exact lk_a6 rfl | exact lk_a7 rfl | exact lk_a8 rfl | exact lk_a rfl); (focus exact inferInstance); (focus exact inferInstance); (focus first | exact True.intro | assumption | rfl | omega | ((repeat' (first | assumption | refine And.intro ?_ ?_ | omega | rfl)); done) | fail); (focus rfl))
      | fail) : LOp C o σ e ro := h
section steps
variable {C : Ctx} {ops : Array Oper} {o : Oper} {rest : List Oper} {K : St → Prop} {σ : St} {e : Eff} {ro : Nat → Bool} {W : List (Nat × Nat)} {i : Nat}
theorem rnC {d : Nat} (hk : RunN C ops rest K (e.app (some d) σ)) (hg : Guard ops σ o true := by first | exact gd_n rfl rfl | exact gd_t rfl rfl rfl rfl | exact gd_t rfl rfl rfl (by assumption)) (hd : o.dst = some d := by rfl) (h : LOp C o σ e ro := by exact lopC) : RunN C ops (o :: rest) K σ := rn_any hg hd h hk
end steps
end W7
open W7
theorem put_ok (n : Nat) (bs : List Nat) (v : List Int) (l : List Ent) (ex : Bool) (hv : vecOk v) (hr : rightF v l = true) (h : bs.length ≤ 800000000) : OCall Tryz.prog 178 [.o (.ptr 1000 n 0), cV v l ex] (memL [(1000, (n + 1, some (.abs (wrA bs))))]) (.tup []) (memL [(1000, (n + 1, some (.abs (wrA (bs ++ cartB (v, l))))))]) := by
  refine ocall_of1 Tryz.func178 rfl (fun w0 F S0 M0 => ?_)
  have h8 := hv.1
  have hl : l.length ≤ 400 := (ok_iff.1 hr).few
  have hes := ok_ents (c := (v, l)) hr hv
  haveI : PC Tryz.prog 203 [cV v l ex] True (.p (.b true)) := ⟨fun _ => by have := right_w v l ex h8 (by omega); rwa [hr] at this⟩
  have d1 : (!true) = false := rfl
  have hvl : (vecB v).length ≤ 72 := by
    obtain ⟨a0, a1, a2, a3, a4, a5, a6, a7, rfl⟩ : ∃ a0 a1 a2 a3 a4 a5 a6 a7, v = [a0, a1, a2, a3, a4, a5, a6, a7] := ⟨_, _, _, _, _, _, _, _, v8_eq h8⟩
    have := numI_len a0; have := numI_len a1; have := numI_len a2; have := numI_len a3; have := numI_len a4; have := numI_len a5; have := numI_len a6; have := numI_len a7
    simp only [vecB, List.flatMap_cons, List.flatMap_nil, List.length_append, List.length_nil]
    omega
  haveI : ∀ c g m : Nat, OC Tryz.prog 228 [.o (.ptr c g 0), .a (v8L v)] [(c, (m, some (.abs (wrA bs))))] [] (m = g + 1) (.tup []) [(c, (m, some (.abs (wrA (bs ++ vecB v)))))] := fun c g m => ⟨fun hm => by
    obtain rfl := hm
    rw [← vV8 h8]
    have := (wvec_o g bs v h8 hv.2 (by omega)).one c
    rw [List.map_cons, List.map_cons, ren_vV] at this
    exact this⟩
  have b1 : l.length < 18446744073709551616 := by omega
  have hnl := numI_len (l.length : Int)
  rw [numI_nat] at hnl
  have hB : cartB (v, l) = vecB v ++ numB l.length ++ l.flatMap entB := by unfold cartB; rw [List.append_assoc]
  have hB0 : (bs ++ vecB v).length ≤ 1000000000 := by rw [List.length_append]; omega
  rw [hB, ← List.append_assoc, ← List.append_assoc]
  repeat' (first | refine rnC ?_ | refine rnSB ?_ | refine rnG ?_ | refine rnU ?_ | ((fail_if_success (refine rnKn ?_)); refine rnP ?_ ?_ <;> (intro hq; try (have hq' := hq; simp only [hqs] at hq'))) | refine rkC ?_ | refine rkSB ?_ | refine rkF ?_ | refine rkU ?_ | ((fail_if_success (refine rkKn ?_)); refine rkP ?_ ?_ <;> (intro hq; try (have hq' := hq; simp only [hqs] at hq'))) | refine stp ?_ | refine ifT ?_ | refine ifF ?_ | (refine ifQ ?_ ?_ <;> (try (intro hn))) | (refine ifB ?_ ?_ <;> (intro hq; try (have hq' := hq; simp only [hqs] at hq'))))
  have hB1 : (bs ++ vecB v ++ numB l.length).length ≤ 800000100 := by rw [List.length_append, List.length_append]; omega
  generalize bs ++ vecB v ++ numB l.length = B0 at hB1 ⊢
  refine aws_loopS [5, 22, 23, 24, 25, 26, 27, 28, 29, 30, 31, 32, 33, 34, 35, 36, 37, 38, 39, 40, 41, 42, 43, 44] [1000, 5] (fun (x : Nat × List Nat × Option MO) => [(22, .p (.i x.1))]) (fun x => [(1000, (n + 1, some (.abs (wrA x.2.1)))), (5, (x.1, x.2.2))]) (fun x => x.1 ≤ l.length ∧ x.2.1 = B0 ++ (l.take x.1).flatMap entB ∧ x.2.1.length ≤ B0.length + 36 * x.1) (fun x => l.length - x.1) (0, B0, none) ⟨Nat.zero_le _, by simp, by simp⟩ (by exact knA) (by exact knA) ?_
  rintro ⟨i, L, c5⟩ β γ ⟨hi, hL, hll⟩
  dsimp only at hi hL hll ⊢
  by_cases hil : i < l.length
  · have d2 : decide ((i : Int) < (l.length : Int)) = true := decide_eq_true (by omega)
    have ei : (i : Int).toNat = i := Int.toNat_natCast i
    have hft := flat_take entB hil
    rw [← ei] at hft
    obtain ⟨e, he⟩ : ∃ e, e = l.getD (i : Int).toNat default := ⟨_, rfl⟩
    have hek := hes e (by rw [he, ei, getD_at hil]; exact List.getElem_mem _)
    obtain ⟨k1, k2, k3, k4⟩ := hek
    have n1 := numI_len e.1
    have n2 := numI_len e.2.1
    have n3 := numI_len e.2.2.1
    have n4 := numI_len ((zig e.2.2.2 : Nat) : Int)
    rw [numI_nat] at n4
    have n4' : (intB e.2.2.2).length ≤ 9 := n4
    have g1 : L.length ≤ 1000000000 := by omega
    have g2 : (L ++ numI e.1).length ≤ 1000000000 := by rw [List.length_append]; omega
    have g3 : (L ++ numI e.1 ++ numI e.2.1).length ≤ 1000000000 := by rw [List.length_append, List.length_append]; omega
    have g4 : (L ++ numI e.1 ++ numI e.2.1 ++ numI e.2.2.1).length ≤ 1000000000 := by rw [List.length_append, List.length_append, List.length_append]; omega
    have g5 : (L ++ numI e.1 ++ numI e.2.1 ++ numI e.2.2.1 ++ intB e.2.2.2).length ≤ B0.length + 36 * (i + 1) := by rw [List.length_append, List.length_append, List.length_append, List.length_append]; omega
    have hn : L ++ numI e.1 ++ numI e.2.1 ++ numI e.2.2.1 ++ intB e.2.2.2 = B0 ++ (l.take (i + 1)).flatMap entB := by
      rw [show (i : Int).toNat = i from ei] at hft he
      rw [hft, hL, ← he]
      simp only [entB, List.append_assoc]
    have w1 : IntKind.u64.wrap e.1 = e.1 := u64_in (by omega)
    have w2 : IntKind.u64.wrap e.2.1 = e.2.1 := u64_in (by omega)
    have k1' : 0 ≤ e.1 ∧ e.1 < 18446744073709551616 := by omega
    have k2' : 0 ≤ e.2.1 ∧ e.2.1 < 18446744073709551616 := by omega
    have k4' : -9223372036854775808 ≤ e.2.2.2 ∧ e.2.2.2 ≤ 9223372036854775807 := by omega
    clear hft hL n1 n2 n3 n4 n4' k1 k2 k4
    subst he
    as_aux_lemma =>
      repeat' (first | refine rnC ?_ | refine rnSB ?_ | refine rnG ?_ | refine rnU ?_ | ((fail_if_success (refine rnKn ?_)); refine rnP ?_ ?_ <;> (intro hq; try (have hq' := hq; simp only [hqs] at hq'))) | refine rkC ?_ | refine rkSB ?_ | refine rkF ?_ | refine rkU ?_ | ((fail_if_success (refine rkKn ?_)); refine rkP ?_ ?_ <;> (intro hq; try (have hq' := hq; simp only [hqs] at hq'))) | refine stp ?_ | refine ifT ?_ | refine ifF ?_ | (refine ifQ ?_ ?_ <;> (try (intro hn))) | (refine ifB ?_ ?_ <;> (intro hq; try (have hq' := hq; simp only [hqs] at hq'))))
      exact ⟨(i + 1, _, _), _, by dsimp only; omega, ⟨by dsimp only; omega, hn, g5⟩, .refl, by exact frA⟩
  · have d2 : decide ((i : Int) < (l.length : Int)) = false := decide_eq_false (by omega)
    rw [List.take_of_length_le (by omega)] at hL
    rw [← hL]
    as_aux_lemma =>
      repeat' (first | refine rnC ?_ | refine rnSB ?_ | refine rnG ?_ | refine rnU ?_ | ((fail_if_success (refine rnKn ?_)); refine rnP ?_ ?_ <;> (intro hq; try (have hq' := hq; simp only [hqs] at hq'))) | refine rkC ?_ | refine rkSB ?_ | refine rkF ?_ | refine rkU ?_ | ((fail_if_success (refine rkKn ?_)); refine rkP ?_ ?_ <;> (intro hq; try (have hq' := hq; simp only [hqs] at hq'))) | refine stp ?_ | refine ifT ?_ | refine ifF ?_ | (refine ifQ ?_ ?_ <;> (try (intro hn))) | (refine ifB ?_ ?_ <;> (intro hq; try (have hq' := hq; simp only [hqs] at hq'))))
      exact RetO.mk (res0 rfl rfl) ⟨.abs, trivial⟩
instance put_i {c g n : Nat} {bs : List Nat} {v : List Int} {l : List Ent} {ex : Bool} : OC Tryz.prog 178 [.o (.ptr c g 0), cV v l ex] [(c, (n, some (.abs (wrA bs))))] [] (n = g + 1 ∧ vecOk v ∧ rightF v l = true ∧ bs.length ≤ 800000000) (.tup []) [(c, (n, some (.abs (wrA (bs ++ cartB (v, l))))))] := ⟨fun h => by obtain ⟨rfl, h1, h2, h3⟩ := h; exact (put_ok g bs v l ex h1 h2 h3).one c⟩
end Go.Proofs.YtclcfjejpogdlaaGreat.Wi
namespace Go.Proofs.YtclcfjejpogdlaaGreat.Wi
open Go Go.RowKit Go.Aw Go.Aw.Cart Go.Proofs.YtclcfjejpogdlaaGreat.Ca
set_option linter.unusedVariables false
set_option linter.unusedSimpArgs false
set_option maxRecDepth 8000
set_option maxHeartbeats 4000000
open W7
end Go.Proofs.YtclcfjejpogdlaaGreat.Wi
namespace Go.Proofs.YtclcfjejpogdlaaGreat.Wi
open Go Go.RowKit Go.Aw Go.Aw.Cart Go.Proofs.YtclcfjejpogdlaaGreat.Ca
set_option linter.unusedVariables false
set_option linter.unusedSimpArgs false
set_option maxRecDepth 8000
set_option maxHeartbeats 4000000
namespace W8
theorem lopC {C : Ctx} {o : Oper} {σ : St} {e : Eff} {ro : Nat → Bool} (h : LOp C o σ e ro := by
    first | exact W7.lopC | fail) : LOp C o σ e ro := h
end W8
open W8
attribute [local irreducible] vecS smallS entS cartS
end Go.Proofs.YtclcfjejpogdlaaGreat.Wi
namespace Go.Proofs.YtclcfjejpogdlaaGreat.Wi
open Go Go.RowKit Go.Aw Go.Aw.Cart Go.Proofs.YtclcfjejpogdlaaGreat.Ca
set_option linter.unusedVariables false
set_option linter.unusedSimpArgs false
theorem bLt_irr : ∀ a, bLt a a = false
  | [] => rfl
  | x :: l => by rw [bLt, if_pos rfl]; exact bLt_irr l
theorem bLt_trans : ∀ {a b c : List Nat}, bLt a b = true → bLt b c = true → bLt a c = true
  | [], [], _, h, _ => by cases h
  | [], _ :: _, [], _, h => by cases h
  | [], _ :: _, _ :: _, _, _ => rfl
  | _ :: _, [], _, h, _ => by cases h
  | _ :: _, _ :: _, [], _, h => by cases h
  | x :: a, y :: b, z :: c, h1, h2 => by
    rw [bLt] at h1 h2 ⊢
    by_cases hxy : x = y
    · subst hxy
      rw [if_pos rfl] at h1
      by_cases hxz : x = z
      · subst hxz
        rw [if_pos rfl] at h2 ⊢
        exact bLt_trans h1 h2
      · rw [if_neg hxz] at h2 ⊢
        exact h2
    · rw [if_neg hxy] at h1
      have h1 := of_decide_eq_true h1
      by_cases hyz : y = z
      · subst hyz
        rw [if_neg hxy]
        exact decide_eq_true h1
      · rw [if_neg hyz] at h2
        have h2 := of_decide_eq_true h2
        rw [if_neg (by omega)]
        exact decide_eq_true (by omega)
/-- a list that may be -/
structure KOk (l : List Kd) : Prop where
  few : l.length ≤ 2000
  up : l.Pairwise fun a b => bLt a.1 b.1 = true
  key : ∀ e ∈ l, e.1.length ≤ 20
  cart : ∀ e ∈ l, rightF e.2.1 e.2.2 = true
theorem adj_kd {l : List Kd} (h : ∀ i, 0 < i → i < l.length → bLt (l.getD (i - 1) default).1 (l.getD i default).1 = true) : l.Pairwise fun a b => bLt a.1 b.1 = true := by
  have key : ∀ j, j < l.length → ∀ i, i < j → bLt (l.getD i default).1 (l.getD j default).1 = true := by
    intro j
    induction j with
    | zero => intro _ i hi; omega
    | succ j ih =>
      intro hj i hi
      have h1 := h (j + 1) (by omega) hj
      rw [Nat.add_sub_cancel] at h1
      by_cases e : i = j
      · rw [e]; exact h1
      · exact bLt_trans (ih (by omega) i (by omega)) h1
  rw [List.pairwise_iff_getElem]
  intro i j hi hj hij
  have := key j hj i hij
  rwa [getD_at hi, getD_at hj] at this
theorem keys_iff {l : List Kd} : keysF l = true ↔ KOk l := by
  unfold keysF kdOk
  rw [decide_eq_true_eq]
  constructor
  · rintro ⟨h1, h2⟩
    have h3 := fun i hi => h2 i hi
    simp only [Bool.and_eq_true, Bool.or_eq_true, decide_eq_true_eq] at h3
    refine ⟨h1, adj_kd fun i h0 hi => ((h3 i hi).2.1).resolve_left (by omega), fun e he => ?_, fun e he => ?_⟩
    · obtain ⟨i, hi, rfl⟩ := getD_mem he
      exact (h3 i hi).1
    · obtain ⟨i, hi, rfl⟩ := getD_mem he
      exact (h3 i hi).2.2
  · rintro ⟨h1, h2, h3, h4⟩
    refine ⟨h1, fun i hi => ?_⟩
    simp only [Bool.and_eq_true, Bool.or_eq_true, decide_eq_true_eq]
    have hm : l.getD i default ∈ l := by rw [getD_at hi]; exact List.getElem_mem _
    refine ⟨h3 _ hm, ?_, h4 _ hm⟩
    by_cases h0 : i = 0
    · exact .inl h0
    · right
      rw [getD_at hi, getD_at (show i - 1 < l.length by omega)]
      exact List.pairwise_iff_getElem.1 h2 (i - 1) i (by omega) hi (by omega)
/-- a key's cart, and whether there is one -/
def findK : List Kd → List Nat → Crt × Bool
  | [], _ => ((zeroV, []), false)
  | e :: l, k => if e.1 = k then (e.2, true) else findK l k
end Go.Proofs.YtclcfjejpogdlaaGreat.Wi
