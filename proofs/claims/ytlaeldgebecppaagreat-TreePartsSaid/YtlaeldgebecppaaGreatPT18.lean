/- wire: a reader's whole numbers, texts and vectors; its end; packs: a cart's bytes, written; packs: a cart read; packs: a cart read, whole; packs in plain Lean: lists of carts by keys: their order, what is found, what another cart makes of them; THE ABSTRACT WALK, part 30: a method's value; sync.Once's Do, as a contract on the object that holds the Once, out of a raw contract of Do and a contract of what is done. Nothing here speaks of a program.; THE ABSTRACT WALK, part 31: a call to which a function's value is handed that captured a variable with a pointer to an own object: both stay while it lasts. Nothing here speaks of a program. -/
import Derived.Test.YtlaeldgebecppaaGreatPT17
import Derived.Test.YtlaeldgebecppaaGreatPT15
namespace Go.Proofs.YtlaeldgebecppaaGreat.Wi
open Go Go.RowKit Go.Aw Go.Aw.Cart Go.Proofs.YtlaeldgebecppaaGreat.Ca
set_option linter.unusedVariables false
set_option linter.unusedSimpArgs false
set_option maxRecDepth 8000
set_option maxHeartbeats 4000000
/-- conversions whose result is known -/
theorem lop_conv_a {C : Ctx} {o : Oper} {σ : St} {s d : TypeId} {x : Operand} {k k' : IntKind} {n m : Int} {sz by_ : Nat} {ks : TK} {sz' by' : Nat} (ho : o.op = .convert s d x) (hT : TI C.P d (.int k') sz by_) (hS : TI C.P s ks sz' by') (hx : σ.look x = .p (.v (.int k n))) (hw : k'.wrap n = m) (hd : dOk C o.dst = true) : LOp C o σ ⟨.p (.v (.int k' m)), []⟩ (fun _ => false) := by
  have := lop_conv ho hx hd; rwa [hw] at this
namespace W6
theorem lopC {C : Ctx} {o : Oper} {σ : St} {e : Eff} {ro : Nat → Bool} (h : LOp C o σ e ro := by
    first | (apply lop_conv_a; (focus rfl); (focus exact inferInstance); (focus exact inferInstance); (focus rfl); (focus assumption); (focus rfl)) | exact W5.lopC | fail) : LOp C o σ e ro := h
section steps
variable {C : Ctx} {ops : Array Oper} {o : Oper} {rest : List Oper} {K : St → Prop} {σ : St} {e : Eff} {ro : Nat → Bool} {W : List (Nat × Nat)} {i : Nat}
theorem rnC {d : Nat} (hk : RunN C ops rest K (e.app (some d) σ)) (hg : Guard ops σ o true := by first | exact gd_n rfl rfl | exact gd_t rfl rfl rfl rfl | exact gd_t rfl rfl rfl (by assumption)) (hd : o.dst = some d := by rfl) (h : LOp C o σ e ro := by exact lopC) : RunN C ops (o :: rest) K σ := rn_any hg hd h hk
end steps
end W6
open W6
end Go.Proofs.YtlaeldgebecppaaGreat.Wi
namespace Go.Proofs.YtlaeldgebecppaaGreat.Wi
open Go Go.RowKit Go.Aw Go.Aw.Cart Go.Proofs.YtlaeldgebecppaaGreat.Ca
set_option linter.unusedVariables false
set_option linter.unusedSimpArgs false
set_option maxRecDepth 8000
set_option maxHeartbeats 4000000
/-- a new writer, as one object -/
theorem says_wr0 {C : Ctx} {σ : St} {p np ty tyB es : Nat} (hp : σ.mem p = (np, some (.box ty [.p (.v (.slice none 0 0))]))) (hes : 0 < es) : Says C σ (σ.put p (np, some (.abs (pkA ty [] [] tyB es [])))) := by
  rintro a w ⟨G, h⟩
  obtain ⟨g, m, hg, hmm, b, arr, h1, h2, h3, h4⟩ := h.mem p _ _ hp
  have hlen : (G.μ p).length = np := by have := h.gens p; rw [hp] at this; exact this
  refine ⟨_, h.upd (o := p) (n' := np) (mo' := some (.abs (pkA ty [] [] tyB es []))) (μo := G.μ p) (fp' := G.φ p) (w' := w) (fun g x hx => hx) hlen rfl .same rfl (Nat.le_refl _) (fun _ _ _ => rfl) (fun b hb => ⟨.inl hb, (h.own p b hb).2⟩) (fun mo1 hmo => ?_)⟩
  obtain rfl := Option.some.inj hmo
  obtain ⟨x, l, rfl, k1, k2⟩ := h4.cons_inv
  obtain rfl := k2.nil_inv
  obtain ⟨rfl, _⟩ := k1
  exact ⟨g, m, hg, hmm, b, h1, none, 0, [], [], [], h3, h2, by simp, .nil, .nil, hes, by simp [maxLen], Nat.le_refl _, .inl ⟨rfl, rfl, rfl⟩⟩
theorem says_wr {C : Ctx} {σ : St} {p np : Nat} (hp : σ.mem p = (np, some (.box 139 [.p (.v (.slice none 0 0))]))) : Says C σ (σ.put p (np, some (.abs (wrA [])))) := says_wr0 hp (by decide)
abbrev v8L (v : List Int) : List AC := [.p (.k .u64 (v.getD 0 default)), .p (.k .u64 (v.getD 1 default)), .p (.k .u64 (v.getD 2 default)), .p (.k .u64 (v.getD 3 default)), .p (.k .u64 (v.getD 4 default)), .p (.k .u64 (v.getD 5 default)), .p (.k .u64 (v.getD 6 default)), .p (.k .u64 (v.getD 7 default))]
theorem vV8 {v : List Int} (h : v.length = 8) : vV v = .a (v8L v) := by
  show AV.a (v.map _) = _
  conv => lhs; rw [v8_eq h]
  rfl
namespace W7
theorem lopC {C : Ctx} {o : Oper} {σ : St} {e : Eff} {ro : Nat → Bool} (h : LOp C o σ e ro := by
    first
      | exact lopV
      | exact W6.lopC
      | (apply lop_call1; (focus rfl); (focus exact inferInstance); (focus exact lk_cart rfl); (focus exact inferInstance); (focus exact inferInstance); (focus first | exact True.intro | assumption | rfl | omega | ((repeat' (first | assumption | refine And.intro ?_ ?_ | omega | rfl)); done) | fail); (focus rfl))
            | (apply lop_call2; (focus rfl); (focus exact inferInstance); (focus exact lk_cart rfl); (focus exact lk_cart rfl); (focus exact inferInstance); (focus exact inferInstance); (focus first | exact True.intro | assumption | rfl | omega | ((repeat' (first | assumption | refine And.intro ?_ ?_ | omega | rfl)); done) | fail); (focus rfl))
            | (apply lop_call2; (focus rfl); (focus exact inferInstance); (focus exact lk_cart rfl); (focus first | exact lk_m1 rfl | exact lk_m2 rfl | exact lk_m3 rfl | exact lk_o rfl | exact lk_a2 rfl | exact lk_a3 rfl | exact lk_a4 rfl | exact lk_a1 rfl | exact lk_a5 rfl | exact lk_a6 rfl | exact lk_a7 rfl | exact lk_a8 rfl | exact lk_a rfl); (focus exact inferInstance); (focus exact inferInstance); (focus first | exact True.intro | assumption | rfl | omega | ((repeat' (first | assumption | refine And.intro ?_ ?_ | omega | rfl)); done) | fail); (focus rfl))
      | fail) : LOp C o σ e ro := h
section steps
variable {C : Ctx} {ops : Array Oper} {o : Oper} {rest : List Oper} {K : St → Prop} {σ : St} {e : Eff} {ro : Nat → Bool} {W : List (Nat × Nat)} {i : Nat}
theorem rnC {d : Nat} (hk : RunN C ops rest K (e.app (some d) σ)) (hg : Guard ops σ o true := by first | exact gd_n rfl rfl | exact gd_t rfl rfl rfl rfl | exact gd_t rfl rfl rfl (by assumption)) (hd : o.dst = some d := by rfl) (h : LOp C o σ e ro := by exact lopC) : RunN C ops (o :: rest) K σ := rn_any hg hd h hk
theorem rkC {d : Nat} (hk : RunK C ops W (i + 1) rest K (e.app (some d) σ)) (hg : Guard ops σ o true := by first | exact gd_n rfl rfl | exact gd_t rfl rfl rfl rfl | exact gd_t rfl rfl rfl (by assumption)) (hd' : o.dst = some d := by rfl) (hd : dOk C o.dst = true := by rfl) (h : LOp C o σ e ro := by exact lopC)
    (hro : ∀ x, ro x = true → okObj ops W i x = true := by first | exact fun _ => ro_none | exact ro_one rfl | exact ro_k1 rfl | exact ro_one (by kernel_rfl) | exact ro_k1 (by kernel_rfl) | exact ro_kIn (by decide)) (hob : ∀ p ∈ e.obj, (i, p.1) ∈ W := by first | exact ob_none | exact ob_one (by decide) | decide) : RunK C ops W i (o :: rest) K σ := rk_wr hg hd' hd h hro hob hk
end steps
end W7
open W7
theorem put_ok (n : Nat) (bs : List Nat) (v : List Int) (l : List Ent) (ex : Bool) (hv : vecOk v) (hr : rightF v l = true) (h : bs.length ≤ 800000000) : OCall Tryz.prog 82 [.o (.ptr 1000 n 0), cV v l ex] (memL [(1000, (n + 1, some (.abs (wrA bs))))]) (.tup []) (memL [(1000, (n + 1, some (.abs (wrA (bs ++ cartB (v, l))))))]) := by
  refine ocall_of1 Tryz.func82 rfl (fun w0 F S0 M0 => ?_)
  have h8 := hv.1
  have hl : l.length ≤ 400 := (ok_iff.1 hr).few
  have hes := ok_ents (c := (v, l)) hr hv
  haveI : PC Tryz.prog 94 [cV v l ex] True (.p (.b true)) := ⟨fun _ => by have := right_w v l ex h8 (by omega); rwa [hr] at this⟩
  have d1 : (!true) = false := rfl
  have hvl : (vecB v).length ≤ 72 := by
    obtain ⟨a0, a1, a2, a3, a4, a5, a6, a7, rfl⟩ : ∃ a0 a1 a2 a3 a4 a5 a6 a7, v = [a0, a1, a2, a3, a4, a5, a6, a7] := ⟨_, _, _, _, _, _, _, _, v8_eq h8⟩
    have := numI_len a0; have := numI_len a1; have := numI_len a2; have := numI_len a3; have := numI_len a4; have := numI_len a5; have := numI_len a6; have := numI_len a7
    simp only [vecB, List.flatMap_cons, List.flatMap_nil, List.length_append, List.length_nil]
    omega
  haveI : ∀ c g m : Nat, OC Tryz.prog 153 [.o (.ptr c g 0), .a (v8L v)] [(c, (m, some (.abs (wrA bs))))] [] (m = g + 1) (.tup []) [(c, (m, some (.abs (wrA (bs ++ vecB v)))))] := fun c g m => ⟨fun hm => by
    obtain rfl := hm
    rw [← vV8 h8]
    have := (wvec_o g bs v h8 hv.2 (by omega)).one c
    rw [List.map_cons, List.map_cons, ren_vV] at this
    exact this⟩
  have b1 : l.length < 18446744073709551616 := by omega
  have hnl := numI_len (l.length : Int)
  rw [numI_nat] at hnl
  have hB : cartB (v, l) = vecB v ++ numB l.length ++ l.flatMap entB := by unfold cartB; rw [List.append_assoc]
  have hB0 : (bs ++ vecB v).length ≤ 1000000000 := by rw [List.length_append]; omega
  rw [hB, ← List.append_assoc, ← List.append_assoc]
  repeat' (first | refine rnC ?_ | refine rnSB ?_ | refine rnG ?_ | refine rnU ?_ | ((fail_if_success (refine rnKn ?_)); refine rnP ?_ ?_ <;> (intro hq; try (have hq' := hq; simp only [hqs] at hq'))) | refine rkC ?_ | refine rkSB ?_ | refine rkF ?_ | refine rkU ?_ | ((fail_if_success (refine rkKn ?_)); refine rkP ?_ ?_ <;> (intro hq; try (have hq' := hq; simp only [hqs] at hq'))) | refine stp ?_ | refine ifT ?_ | refine ifF ?_ | (refine ifQ ?_ ?_ <;> (try (intro hn))) | (refine ifB ?_ ?_ <;> (intro hq; try (have hq' := hq; simp only [hqs] at hq'))))
  have hB1 : (bs ++ vecB v ++ numB l.length).length ≤ 800000100 := by rw [List.length_append, List.length_append]; omega
  generalize bs ++ vecB v ++ numB l.length = B0 at hB1 ⊢
  refine aws_loopS [5, 22, 23, 24, 25, 26, 27, 28, 29, 30, 31, 32, 33, 34, 35, 36, 37, 38, 39, 40, 41, 42, 43, 44] [1000, 5] (fun (x : Nat × List Nat × Option MO) => [(22, .p (.i x.1))]) (fun x => [(1000, (n + 1, some (.abs (wrA x.2.1)))), (5, (x.1, x.2.2))]) (fun x => x.1 ≤ l.length ∧ x.2.1 = B0 ++ (l.take x.1).flatMap entB ∧ x.2.1.length ≤ B0.length + 36 * x.1) (fun x => l.length - x.1) (0, B0, none) ⟨Nat.zero_le _, by simp, by simp⟩ (by exact knA) (by exact knA) ?_
  rintro ⟨i, L, c5⟩ β γ ⟨hi, hL, hll⟩
  dsimp only at hi hL hll ⊢
  by_cases hil : i < l.length
  · have d2 : decide ((i : Int) < (l.length : Int)) = true := decide_eq_true (by omega)
    have ei : (i : Int).toNat = i := Int.toNat_natCast i
    have hft := flat_take entB hil
    rw [← ei] at hft
    obtain ⟨e, he⟩ : ∃ e, e = l.getD (i : Int).toNat default := ⟨_, rfl⟩
    have hek := hes e (by rw [he, ei, getD_at hil]; exact List.getElem_mem _)
    obtain ⟨k1, k2, k3, k4⟩ := hek
    have n1 := numI_len e.1
    have n2 := numI_len e.2.1
    have n3 := numI_len e.2.2.1
    have n4 := numI_len ((zig e.2.2.2 : Nat) : Int)
    rw [numI_nat] at n4
    have n4' : (intB e.2.2.2).length ≤ 9 := n4
    have g1 : L.length ≤ 1000000000 := by omega
    have g2 : (L ++ numI e.1).length ≤ 1000000000 := by rw [List.length_append]; omega
    have g3 : (L ++ numI e.1 ++ numI e.2.1).length ≤ 1000000000 := by rw [List.length_append, List.length_append]; omega
    have g4 : (L ++ numI e.1 ++ numI e.2.1 ++ numI e.2.2.1).length ≤ 1000000000 := by rw [List.length_append, List.length_append, List.length_append]; omega
    have g5 : (L ++ numI e.1 ++ numI e.2.1 ++ numI e.2.2.1 ++ intB e.2.2.2).length ≤ B0.length + 36 * (i + 1) := by rw [List.length_append, List.length_append, List.length_append, List.length_append]; omega
    have hn : L ++ numI e.1 ++ numI e.2.1 ++ numI e.2.2.1 ++ intB e.2.2.2 = B0 ++ (l.take (i + 1)).flatMap entB := by
      rw [show (i : Int).toNat = i from ei] at hft he
      rw [hft, hL, ← he]
      simp only [entB, List.append_assoc]
    have w1 : IntKind.u64.wrap e.1 = e.1 := u64_in (by omega)
    have w2 : IntKind.u64.wrap e.2.1 = e.2.1 := u64_in (by omega)
    have k1' : 0 ≤ e.1 ∧ e.1 < 18446744073709551616 := by omega
    have k2' : 0 ≤ e.2.1 ∧ e.2.1 < 18446744073709551616 := by omega
    have k4' : -9223372036854775808 ≤ e.2.2.2 ∧ e.2.2.2 ≤ 9223372036854775807 := by omega
    clear hft hL n1 n2 n3 n4 n4' k1 k2 k4
    subst he
    as_aux_lemma =>
      repeat' (first | refine rnC ?_ | refine rnSB ?_ | refine rnG ?_ | refine rnU ?_ | ((fail_if_success (refine rnKn ?_)); refine rnP ?_ ?_ <;> (intro hq; try (have hq' := hq; simp only [hqs] at hq'))) | refine rkC ?_ | refine rkSB ?_ | refine rkF ?_ | refine rkU ?_ | ((fail_if_success (refine rkKn ?_)); refine rkP ?_ ?_ <;> (intro hq; try (have hq' := hq; simp only [hqs] at hq'))) | refine stp ?_ | refine ifT ?_ | refine ifF ?_ | (refine ifQ ?_ ?_ <;> (try (intro hn))) | (refine ifB ?_ ?_ <;> (intro hq; try (have hq' := hq; simp only [hqs] at hq'))))
      exact ⟨(i + 1, _, _), _, by dsimp only; omega, ⟨by dsimp only; omega, hn, g5⟩, .refl, by exact frA⟩
  · have d2 : decide ((i : Int) < (l.length : Int)) = false := decide_eq_false (by omega)
    rw [List.take_of_length_le (by omega)] at hL
    rw [← hL]
    as_aux_lemma =>
      repeat' (first | refine rnC ?_ | refine rnSB ?_ | refine rnG ?_ | refine rnU ?_ | ((fail_if_success (refine rnKn ?_)); refine rnP ?_ ?_ <;> (intro hq; try (have hq' := hq; simp only [hqs] at hq'))) | refine rkC ?_ | refine rkSB ?_ | refine rkF ?_ | refine rkU ?_ | ((fail_if_success (refine rkKn ?_)); refine rkP ?_ ?_ <;> (intro hq; try (have hq' := hq; simp only [hqs] at hq'))) | refine stp ?_ | refine ifT ?_ | refine ifF ?_ | (refine ifQ ?_ ?_ <;> (try (intro hn))) | (refine ifB ?_ ?_ <;> (intro hq; try (have hq' := hq; simp only [hqs] at hq'))))
      exact RetO.mk (res0 rfl rfl) ⟨.abs, trivial⟩
instance put_i {c g n : Nat} {bs : List Nat} {v : List Int} {l : List Ent} {ex : Bool} : OC Tryz.prog 82 [.o (.ptr c g 0), cV v l ex] [(c, (n, some (.abs (wrA bs))))] [] (n = g + 1 ∧ vecOk v ∧ rightF v l = true ∧ bs.length ≤ 800000000) (.tup []) [(c, (n, some (.abs (wrA (bs ++ cartB (v, l))))))] := ⟨fun h => by obtain ⟨rfl, h1, h2, h3⟩ := h; exact (put_ok g bs v l ex h1 h2 h3).one c⟩
end Go.Proofs.YtlaeldgebecppaaGreat.Wi
namespace Go.Proofs.YtlaeldgebecppaaGreat.Wi
open Go Go.RowKit Go.Aw Go.Aw.Cart Go.Proofs.YtlaeldgebecppaaGreat.Ca
set_option linter.unusedVariables false
set_option linter.unusedSimpArgs false
set_option maxRecDepth 8000
set_option maxHeartbeats 4000000
open W7
end Go.Proofs.YtlaeldgebecppaaGreat.Wi
namespace Go.Proofs.YtlaeldgebecppaaGreat.Wi
open Go Go.RowKit Go.Aw Go.Aw.Cart Go.Proofs.YtlaeldgebecppaaGreat.Ca
set_option linter.unusedVariables false
set_option linter.unusedSimpArgs false
set_option maxRecDepth 8000
set_option maxHeartbeats 4000000
theorem ro_k1 {ops : Array Oper} {W : List (Nat × Nat)} {i c : Nat} {m : Nat × Option MO} (h : okObj ops W i c = true) : ∀ x, kIn [(c, m)] x = true → okObj ops W i x = true := fun x hx => by
  simp only [kIn, Bool.or_false] at hx
  rw [Nat.eq_of_beq_eq_true hx]; exact h
namespace W8
theorem lopC {C : Ctx} {o : Oper} {σ : St} {e : Eff} {ro : Nat → Bool} (h : LOp C o σ e ro := by
    first | exact W7.lopC | fail) : LOp C o σ e ro := h
end W8
open W8
attribute [local irreducible] vecS smallS entS cartS
end Go.Proofs.YtlaeldgebecppaaGreat.Wi
namespace Go.Proofs.YtlaeldgebecppaaGreat.Wi
open Go Go.RowKit Go.Aw Go.Aw.Cart Go.Proofs.YtlaeldgebecppaaGreat.Ca
set_option linter.unusedVariables false
set_option linter.unusedSimpArgs false
theorem bLt_irr : ∀ a, bLt a a = false
  | [] => rfl
  | x :: l => by rw [bLt, if_pos rfl]; exact bLt_irr l
theorem bLt_trans : ∀ {a b c : List Nat}, bLt a b = true → bLt b c = true → bLt a c = true
  | [], [], _, h, _ => by cases h
  | [], _ :: _, [], _, h => by cases h
  | [], _ :: _, _ :: _, _, _ => rfl
  | _ :: _, [], _, h, _ => by cases h
  | _ :: _, _ :: _, [], _, h => by cases h
  | x :: a, y :: b, z :: c, h1, h2 => by
    rw [bLt] at h1 h2 ⊢
    by_cases hxy : x = y
    · subst hxy
      rw [if_pos rfl] at h1
      by_cases hxz : x = z
      · subst hxz
        rw [if_pos rfl] at h2 ⊢
        exact bLt_trans h1 h2
      · rw [if_neg hxz] at h2 ⊢
        exact h2
    · rw [if_neg hxy] at h1
      have h1 := of_decide_eq_true h1
      by_cases hyz : y = z
      · subst hyz
        rw [if_neg hxy]
        exact decide_eq_true h1
      · rw [if_neg hyz] at h2
        have h2 := of_decide_eq_true h2
        rw [if_neg (by omega)]
        exact decide_eq_true (by omega)
/-- a list that may be -/
structure KOk (l : List Kd) : Prop where
  few : l.length ≤ 2000
  up : l.Pairwise fun a b => bLt a.1 b.1 = true
  key : ∀ e ∈ l, e.1.length ≤ 20
  cart : ∀ e ∈ l, rightF e.2.1 e.2.2 = true
theorem adj_kd {l : List Kd} (h : ∀ i, 0 < i → i < l.length → bLt (l.getD (i - 1) default).1 (l.getD i default).1 = true) : l.Pairwise fun a b => bLt a.1 b.1 = true := by
  have key : ∀ j, j < l.length → ∀ i, i < j → bLt (l.getD i default).1 (l.getD j default).1 = true := by
    intro j
    induction j with
    | zero => intro _ i hi; omega
    | succ j ih =>
      intro hj i hi
      have h1 := h (j + 1) (by omega) hj
      rw [Nat.add_sub_cancel] at h1
      by_cases e : i = j
      · rw [e]; exact h1
      · exact bLt_trans (ih (by omega) i (by omega)) h1
  rw [List.pairwise_iff_getElem]
  intro i j hi hj hij
  have := key j hj i hij
  rwa [getD_at hi, getD_at hj] at this
theorem keys_iff {l : List Kd} : keysF l = true ↔ KOk l := by
  unfold keysF kdOk
  rw [decide_eq_true_eq]
  constructor
  · rintro ⟨h1, h2⟩
    have h3 := fun i hi => h2 i hi
    simp only [Bool.and_eq_true, Bool.or_eq_true, decide_eq_true_eq] at h3
    refine ⟨h1, adj_kd fun i h0 hi => ((h3 i hi).2.1).resolve_left (by omega), fun e he => ?_, fun e he => ?_⟩
    · obtain ⟨i, hi, rfl⟩ := getD_mem he
      exact (h3 i hi).1
    · obtain ⟨i, hi, rfl⟩ := getD_mem he
      exact (h3 i hi).2.2
  · rintro ⟨h1, h2, h3, h4⟩
    refine ⟨h1, fun i hi => ?_⟩
    simp only [Bool.and_eq_true, Bool.or_eq_true, decide_eq_true_eq]
    have hm : l.getD i default ∈ l := by rw [getD_at hi]; exact List.getElem_mem _
    refine ⟨h3 _ hm, ?_, h4 _ hm⟩
    by_cases h0 : i = 0
    · exact .inl h0
    · right
      rw [getD_at hi, getD_at (show i - 1 < l.length by omega)]
      exact List.pairwise_iff_getElem.1 h2 (i - 1) i (by omega) hi (by omega)
/-- a key's cart, and whether there is one -/
def findK : List Kd → List Nat → Crt × Bool
  | [], _ => ((zeroV, []), false)
  | e :: l, k => if e.1 = k then (e.2, true) else findK l k
end Go.Proofs.YtlaeldgebecppaaGreat.Wi
namespace Go.Aw
open Go Go.RowKit
set_option linter.unusedVariables false
set_option linter.unusedSimpArgs false
theorem All2.set {α β : Type} {R : α → β → Prop} {l : List α} {m : List β} (h : All2 R l m) (i : Nat) {a : α} {b : β} (hab : R a b) : All2 R (l.set i a) (m.set i b) := by
  refine ⟨by simp [h.1], fun j x y hx hy => ?_⟩
  rw [List.getElem?_set] at hx hy
  by_cases hij : i = j
  · subst hij
    rw [if_pos rfl] at hx hy
    split at hx
    · rw [if_pos (by rw [← h.1]; assumption)] at hy
      cases hx; cases hy; exact hab
    · cases hx
  · rw [if_neg hij] at hx hy
    exact h.2 j x y hx hy
theorem ObjG.drew {mem : Nat → Nat × Option MO} {w : World} {G : Gh} (ho : ObjG mem w G) : ObjG mem w.drew G := {
  gens := ho.gens
  mem := fun x n mo hx => by
    obtain ⟨g2, m2, h1, h2, h3⟩ := ho.mem x n mo hx
    exact ⟨g2, m2, h1, h2, h3.mono (Mu.le.refl _) (fun b hb => ⟨hb, rfl⟩) fun _ _ => rfl⟩
  apart := ho.apart
  stab := ho.stab
  own := ho.own
  sbd := ho.sbd }
/-- what is known of an object, said in other words -/
theorem RelG.mem' {C : Ctx} {σ : St} {a : Act} {w : World} {G : Gh} (h : RelG C σ a w G) {o n : Nat} {mo mo' : MO} (hm : σ.mem o = (n, some mo)) (hh : ∀ μ X m fp, mo.holds μ X m fp → (μ o).length = n → (∀ g, n = g + 1 → (μ o)[g]? = some m) → mo'.holds μ X m fp) : ∃ G', RelG C (σ.put o (n, some mo')) a w G' := by
  have hlen : (G.μ o).length = n := by have := h.gens o; rw [hm] at this; exact this
  obtain ⟨g', m, hg, hmm, hx⟩ := h.mem o _ _ hm
  have eμ : (fun x => if x = o then G.μ o else G.μ x) = G.μ := by funext x; split <;> simp_all
  refine ⟨_, h.upd (o := o) (n' := n) (mo' := some mo') (μo := G.μ o) (fp' := G.φ o) (w' := w) (fun g x hx => hx) hlen rfl .same rfl (Nat.le_refl _) (fun _ _ _ => rfl) (fun b hb => ⟨.inl hb, (h.own o b hb).2⟩) (fun mo1 hmo => ?_)⟩
  obtain rfl := Option.some.inj hmo
  refine ⟨g', m, hg, hmm, ?_⟩
  rw [eμ]
  exact hh _ _ _ _ hx hlen fun g hgn => by obtain rfl : g' = g := by omega
                                           exact hmm
end Go.Aw
namespace Go.Aw
open Go Go.RowKit
set_option linter.unusedVariables false
set_option linter.unusedSimpArgs false
/-- an object whose content hangs on no block that stays -/
def MV (mo : MO) : Prop := ∀ μ X Y m fp, X.w = Y.w → mo.holds μ X m fp → mo.holds μ Y m fp
theorem MV.buf {ty es : Nat} {α : Type} {l : List α} {f : α → List Value} : MV (.buf ty es (l.map fun x => (f x).map PVal.v)) := by
  rintro μ X Y m fp hw ⟨h1, h2, h3, h4⟩
  refine ⟨h1, h2, h3, ?_⟩
  rcases h4 with h4 | ⟨b, arr, k1, k2, k3, k4, k5⟩
  · exact .inl h4
  · refine .inr ⟨b, arr, k1, k2, by rw [← hw]; exact k3, k4, fun i row hr => ⟨(k5 i row hr).1, fun j p hp => ?_⟩⟩
    obtain ⟨c, hc, hh⟩ := (k5 i row hr).2 j p hp
    refine ⟨c, hc, ?_⟩
    rw [List.getElem?_map] at hr
    cases hx : l[i]? with
    | none => rw [hx] at hr; cases hr
    | some x =>
      rw [hx] at hr; simp at hr; subst hr
      rw [List.getElem?_map] at hp
      cases hy : (f x)[j]? with
      | none => rw [hy] at hp; cases hp
      | some y => rw [hy] at hp; simp at hp; subst hp; exact hh
theorem MO.holds.fp {μ : Mu} {X : Wd} {ty : TypeId} {cs : List AC} {m : Option Nat × Nat} {fp : List Nat} (h : (MO.box ty cs).holds μ X m fp) : ∃ b, m.1 = some b ∧ fp = [b] := by
  obtain ⟨b, arr, h1, h2, _⟩ := h; exact ⟨b, h1, h2⟩
end Go.Aw
