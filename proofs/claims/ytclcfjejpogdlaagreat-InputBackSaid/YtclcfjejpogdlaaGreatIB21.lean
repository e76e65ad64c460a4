/- packs: a cart read, whole; packs in plain Lean: lists of carts by keys: their order, what is found, what another cart makes of them; THE ABSTRACT WALK, part 30: a method's value; sync.Once's Do, as a contract on the object that holds the Once, out of a raw contract of Do and a contract of what is done. Nothing here speaks of a program.; THE ABSTRACT WALK, part 31: a call to which a function's value is handed that captured a variable with a pointer to an own object: both stay while it lasts. Nothing here speaks of a program.; THE ABSTRACT WALK, part 32: strings read byte by byte. Nothing here speaks of a program. -/
import Derived.Test.YtclcfjejpogdlaaGreatIB20
import Derived.Test.YtclcfjejpogdlaaGreatIB14
import Derived.Test.YtclcfjejpogdlaaGreatIB17
namespace Go.Proofs.YtclcfjejpogdlaaGreat.Wi
open Go Go.RowKit Go.Aw Go.Aw.Cart Go.Proofs.YtclcfjejpogdlaaGreat.Ca
set_option linter.unusedVariables false
set_option linter.unusedSimpArgs false
set_option maxRecDepth 8000
set_option maxHeartbeats 4000000
theorem ro_k1 {ops : Array Oper} {W : List (Nat × Nat)} {i c : Nat} {m : Nat × Option MO} (h : okObj ops W i c = true) : ∀ x, kIn [(c, m)] x = true → okObj ops W i x = true := fun x hx => by
  simp only [kIn, Bool.or_false] at hx
  rw [Nat.eq_of_beq_eq_true hx]; exact h
namespace W8
theorem lopC {C : Ctx} {o : Oper} {σ : St} {e : Eff} {ro : Nat → Bool} (h : LOp C o σ e ro := by
    first | exact W7.lopC | fail) : LOp C o σ e ro := h
section steps
variable {C : Ctx} {ops : Array Oper} {o : Oper} {rest : List Oper} {K : St → Prop} {σ : St} {e : Eff} {ro : Nat → Bool} {W : List (Nat × Nat)} {i : Nat}
theorem rnC {d : Nat} (hk : RunN C ops rest K (e.app (some d) σ)) (hg : Guard ops σ o true := by first | exact gd_n rfl rfl | exact gd_t rfl rfl rfl rfl | exact gd_t rfl rfl rfl (by assumption)) (hd : o.dst = some d := by rfl) (h : LOp C o σ e ro := by exact lopC) : RunN C ops (o :: rest) K σ := rn_any hg hd h hk
theorem rkC {d : Nat} (hk : RunK C ops W (i + 1) rest K (e.app (some d) σ)) (hg : Guard ops σ o true := by first | exact gd_n rfl rfl | exact gd_t rfl rfl rfl rfl | exact gd_t rfl rfl rfl (by assumption)) (hd' : o.dst = some d := by rfl) (hd : dOk C o.dst = true := by rfl) (h : LOp C o σ e ro := by exact lopC)
    (hro : ∀ x, ro x = true → okObj ops W i x = true := by first | exact fun _ => ro_none | exact ro_one rfl | exact ro_k1 rfl | exact ro_one (by kernel_rfl) | exact ro_k1 (by kernel_rfl) | exact ro_kIn (by decide)) (hob : ∀ p ∈ e.obj, (i, p.1) ∈ W := by first | exact ob_none | exact ob_one (by decide) | decide) : RunK C ops W i (o :: rest) K σ := rk_wr hg hd' hd h hro hob hk
end steps
end W8
open W8
theorem many_bad {α : Type} {P : RS → α × RS} (r : RS) {k : Nat} (h : (manyS P k r).2.2 ≠ 0) : ∀ j, manyS P (k + j) r = manyS P k r
  | 0 => rfl
  | j + 1 => by
    have ih := many_bad r h j
    rw [← Nat.add_assoc, manyS, ih, if_neg h]
theorem cartS_eq (r : RS) : cartS r = okS ((vecS r).1, (manyS entS (smallS 400 (vecS r).2).1.toNat (smallS 400 (vecS r).2).2).1) (zeroV, []) (mustS (rightF (vecS r).1 (manyS entS (smallS 400 (vecS r).2).1.toNat (smallS 400 (vecS r).2).2).1) (manyS entS (smallS 400 (vecS r).2).1.toNat (smallS 400 (vecS r).2).2).2) := by
  simp only [cartS, bindS, mustU]
theorem fin9 {σ : St} {K : Nat → Bool} {p0 p1 p2 p3 p4 p5 p6 p7 : PVal} : All2 (FinC σ K) [.p p0, .p p1, .p p2, .p p3, .p p4, .p p5, .p p6, .p p7, .p (.v (.slice none 0 0))] [.p p0, .p p1, .p p2, .p p3, .p p4, .p p5, .p p6, .p p7, .p (.sl 4 (([] : List Ent).map eR) false)] :=
  .cons .p (.cons .p (.cons .p (.cons .p (.cons .p (.cons .p (.cons .p (.cons .p (.cons .nil .nil))))))))
theorem pr_ex {α β : Type} (p : α × β) : ∃ a b, p = (a, b) := ⟨p.1, p.2, rfl⟩
theorem all_ok_len (r : RS) (z : List Int) (k : Nat) (hz : z.length = k) : (bindS (allS numZ k) (fun v => okS v z) r).1.length = k := by
  show (if (allS numZ k r).2.2 = 0 then (allS numZ k r).1 else z).length = k
  split
  · exact all_len _ _ _
  · exact hz
theorem vec_len8 (r : RS) : (vecS r).1.length = 8 := all_ok_len r zeroV 8 rfl
theorem small_le {most : Int} (h : 0 ≤ most) (r : RS) : (smallS most r).1 ≤ most := by
  unfold smallS
  dsimp only
  split
  · rename_i hz
    unfold mustS at hz
    by_cases k : (decide (0 ≤ most) && decide (((numS r).1 : Int) ≤ most)) = true
    · rw [Bool.and_eq_true, decide_eq_true_eq, decide_eq_true_eq] at k
      exact k.2
    · by_cases k2 : (numS r).2.2 = 0
      · rw [if_pos ⟨k2, Bool.eq_false_iff.2 k⟩] at hz; cases hz
      · rw [if_neg (fun q => k2 q.1)] at hz; exact absurd hz k2
  · exact h
attribute [local irreducible] vecS smallS entS cartS
theorem ptake_o (n : Nat) (r : RS) (hr : rdOk r) : OCall Tryz.prog 192 [.o (.ptr 1000 n 0)] (memL [(1000, (n + 1, some (rdM r)))]) (cV (cartS r).1.1 (cartS r).1.2 false) (memL [(1000, (n + 1, some (rdM (cartS r).2)))]) := by
  refine ocall_of1 Tryz.func192 rfl (fun w0 F S0 M0 => ?_)
  have hv8 := vec_len8 r
  rw [cartS_eq]
  obtain ⟨V, r1, h1⟩ : ∃ a r1, vecS r = (a, r1) := pr_ex _
  have o1 : rdOk r1 := by have := par_vec.rd hr; rwa [h1] at this
  haveI : ∀ p g m : Nat, OC Tryz.prog 235 [.o (.ptr p g 0)] [(p, (m, some (rdM r)))] [] (m = g + 1) (.a (v8L V)) [(p, (m, some (rdM r1)))] := fun p g m => ⟨fun h => by
    obtain rfl := h
    have := (rvec_o g r hr).one p
    rw [ren_vV, vV8 hv8, h1] at this
    exact this⟩
  rw [h1] at hv8 ⊢
  clear h1
  dsimp only at hv8 ⊢
  obtain ⟨k, hk⟩ := small_nat 400 r1
  obtain ⟨r2, h2⟩ : ∃ r2, (smallS 400 r1).2 = r2 := ⟨_, rfl⟩
  have o2 : rdOk r2 := by have := (par_small 400).rd o1; rwa [h2] at this
  haveI : ∀ p g m : Nat, OC Tryz.prog 97 [.o (.ptr p g 0), .p (.i 400)] [(p, (m, some (rdM r1)))] [] (m = g + 1) (.p (.i (k : Int))) [(p, (m, some (rdM r2)))] := fun p g m => ⟨fun h => by obtain rfl := h; have := (small_o g r1 400 (by decide) o1.1 o1.2).one p; rwa [hk, h2] at this⟩
  have hk4 : (k : Int) ≤ 400 := by rw [← hk]; exact small_le (by decide) r1
  rw [hk, h2, Int.toNat_natCast]
  clear hk h2
  have okS_is : ∀ (a z : Crt) (q : RS), okS a z q = (if q.2 = 0 then a else z, q) := fun _ _ _ => rfl
  rw [okS_is]
  repeat' (first | refine rnC ?_ | refine rnSB ?_ | refine rnG ?_ | refine rnU ?_ | ((fail_if_success (refine rnKn ?_)); refine rnP ?_ ?_ <;> (intro hq; try (have hq' := hq; simp only [hqs] at hq'))) | refine rkC ?_ | refine rkSB ?_ | refine rkF ?_ | refine rkU ?_ | ((fail_if_success (refine rkKn ?_)); refine rkP ?_ ?_ <;> (intro hq; try (have hq' := hq; simp only [hqs] at hq'))) | refine stp ?_ | refine ifT ?_ | refine ifF ?_ | (refine ifQ ?_ ?_ <;> (try (intro hn))) | (refine ifB ?_ ?_ <;> (intro hq; try (have hq' := hq; simp only [hqs] at hq'))))
  refine aws_says (says_nil_at (p := 3) (k := 8) (o := 901) (ty := 289) (es := 4) (ds := v8L V ++ [.osl 901 0 4 0 0]) rfl rfl rfl rfl (by decide) (by decide)) ?_
  refine aws_loopS [9, 10, 11, 12, 13, 14, 15, 16, 17, 18, 19, 20, 21] [1000, 3, 901] (fun (x : Nat × Nat × List Ent × RS) => [(9, .p (.i x.1))]) (fun x => [(1000, (n + 1, some (rdM x.2.2.2))), (3, (1, some (.box 146 (v8L V ++ [.osl 901 x.2.1 4 0 x.2.2.1.length])))), (901, (x.2.1 + 1, some (.buf 289 4 (x.2.2.1.map eR))))])
    (fun x => x.1 ≤ k ∧ manyS entS x.1 r2 = (x.2.2.1, x.2.2.2)) (fun x => k - x.1) (0, 0, [], r2) ⟨Nat.zero_le _, rfl⟩ (by exact knA) (by exact knA) ?_
  rintro ⟨i, g, L, q⟩ β γ ⟨hi, hL⟩
  dsimp only at hi hL ⊢
  have hll : L.length ≤ 400 := by have := many_len entS r2 i; rw [hL] at this; dsimp only at this; omega
  have oq : rdOk q := by have := (par_many par_ent i).rd o2; rwa [hL] at this
  by_cases hik : i < k ∧ q.2 = 0
  · obtain ⟨hik, hq⟩ := hik
    have d1 : decide ((i : Int) < (k : Int)) = true := decide_eq_true (by omega)
    have d2 : decide (q.2 ≠ 0) = false := decide_eq_false fun h => h hq
    have hn : manyS entS (i + 1) r2 = (L ++ [(entS q).1], (entS q).2) := by rw [manyS, hL, if_pos hq]
    obtain ⟨e, q', he⟩ : ∃ e q', entS q = (e, q') := pr_ex _
    haveI : ∀ p g m : Nat, OC Tryz.prog 236 [.o (.ptr p g 0)] [(p, (m, some (rdM q)))] [] (m = g + 1) (eV e) [(p, (m, some (rdM q')))] := fun p g m => ⟨fun h => by obtain rfl := h; have := (entry_o g q oq).one p; rwa [he] at this⟩
    rw [he] at hn
    clear he
    repeat' (first | refine rnC ?_ | refine rnSB ?_ | refine rnG ?_ | refine rnU ?_ | ((fail_if_success (refine rnKn ?_)); refine rnP ?_ ?_ <;> (intro hq; try (have hq' := hq; simp only [hqs] at hq'))) | refine rkC ?_ | refine rkSB ?_ | refine rkF ?_ | refine rkU ?_ | ((fail_if_success (refine rkKn ?_)); refine rkP ?_ ?_ <;> (intro hq; try (have hq' := hq; simp only [hqs] at hq'))) | refine stp ?_ | refine ifT ?_ | refine ifF ?_ | (refine ifQ ?_ ?_ <;> (try (intro hn))) | (refine ifB ?_ ?_ <;> (intro hq; try (have hq' := hq; simp only [hqs] at hq'))))
    refine aws_draws [(3, 1000), (5, 901), (7, 3)] mixed (by kernel_rfl) ?_
    repeat' (first | refine rk_nil ?_ | refine rkC ?_ | refine rkSB ?_ | refine rkF ?_ | refine rkU ?_ | ((fail_if_success (refine rkKn ?_)); refine rkP ?_ ?_ <;> (intro hq; try (have hq' := hq; simp only [hqs] at hq'))))
    as_aux_lemma =>
      repeat' (first | refine rnC ?_ | refine rnSB ?_ | refine rnG ?_ | refine rnU ?_ | ((fail_if_success (refine rnKn ?_)); refine rnP ?_ ?_ <;> (intro hq; try (have hq' := hq; simp only [hqs] at hq'))) | refine rkC ?_ | refine rkSB ?_ | refine rkF ?_ | refine rkU ?_ | ((fail_if_success (refine rkKn ?_)); refine rkP ?_ ?_ <;> (intro hq; try (have hq' := hq; simp only [hqs] at hq'))) | refine stp ?_ | refine ifT ?_ | refine ifF ?_ | (refine ifQ ?_ ?_ <;> (try (intro hn))) | (refine ifB ?_ ?_ <;> (intro hq; try (have hq' := hq; simp only [hqs] at hq'))))
      exact ⟨(i + 1, g + 1, L ++ [e], q'), _, by dsimp only; omega, ⟨by dsimp only; omega, hn⟩, .refl, by exact frA⟩
  · have hm : manyS entS k r2 = (L, q) := by
      by_cases h : i < k
      · have hq : q.2 ≠ 0 := fun hq => hik ⟨h, hq⟩
        have := many_bad (P := entS) r2 (k := i) (by rw [hL]; exact hq) (k - i)
        rw [show i + (k - i) = k by omega] at this
        rw [this, hL]
      · rw [show k = i by omega, hL]
    have hex : decide ((i : Int) < (k : Int)) = false ∨ (decide ((i : Int) < (k : Int)) = true ∧ decide (q.2 ≠ 0) = true) := by
      by_cases h : i < k
      · exact .inr ⟨decide_eq_true (by omega), decide_eq_true fun hq => hik ⟨h, hq⟩⟩
      · exact .inl (decide_eq_false (by omega))
    rw [hm]
    dsimp only
    clear hm hL hik
    haveI : PC Tryz.prog 203 [cV V L false] True (.p (.b (rightF V L))) := ⟨fun _ => right_w V L false hv8 (by omega)⟩
    refine aws_says (says_frz_at (p := 3) (k := 8) (o := 901) (ds := cL V L false) rfl rfl rfl rfl rfl (by rw [List.length_map]) (by decide)) ?_
    generalize rightF V L = B at this ⊢
    by_cases hz : (mustS B q).2 = 0
    · have d4 : decide ((mustS B q).2 ≠ 0) = false := decide_eq_false fun h => h hz
      rw [if_pos hz]
      rcases hex with d1 | ⟨d1, d2⟩
      all_goals
        as_aux_lemma =>
          repeat' (first | refine rnC ?_ | refine rnSB ?_ | refine rnG ?_ | refine rnU ?_ | ((fail_if_success (refine rnKn ?_)); refine rnP ?_ ?_ <;> (intro hq; try (have hq' := hq; simp only [hqs] at hq'))) | refine rkC ?_ | refine rkSB ?_ | refine rkF ?_ | refine rkU ?_ | ((fail_if_success (refine rkKn ?_)); refine rkP ?_ ?_ <;> (intro hq; try (have hq' := hq; simp only [hqs] at hq'))) | refine stp ?_ | refine ifT ?_ | refine ifF ?_ | (refine ifQ ?_ ?_ <;> (try (intro hn))) | (refine ifB ?_ ?_ <;> (intro hq; try (have hq' := hq; simp only [hqs] at hq'))))
          exact RetO.mk (oc1 rfl rfl rfl rfl rfl rfl finL_p rfl) ⟨.box finL_p, trivial⟩
    · have d4 : decide ((mustS B q).2 ≠ 0) = true := decide_eq_true hz
      rw [if_neg hz]
      rcases hex with d1 | ⟨d1, d2⟩
      all_goals
        as_aux_lemma =>
          repeat' (first | refine rnC ?_ | refine rnSB ?_ | refine rnG ?_ | refine rnU ?_ | ((fail_if_success (refine rnKn ?_)); refine rnP ?_ ?_ <;> (intro hq; try (have hq' := hq; simp only [hqs] at hq'))) | refine rkC ?_ | refine rkSB ?_ | refine rkF ?_ | refine rkU ?_ | ((fail_if_success (refine rkKn ?_)); refine rkP ?_ ?_ <;> (intro hq; try (have hq' := hq; simp only [hqs] at hq'))) | refine stp ?_ | refine ifT ?_ | refine ifF ?_ | (refine ifQ ?_ ?_ <;> (try (intro hn))) | (refine ifB ?_ ?_ <;> (intro hq; try (have hq' := hq; simp only [hqs] at hq'))))
          exact RetO.mk (oc1 rfl rfl rfl rfl rfl rfl fin9 rfl) ⟨.box finL_p, trivial⟩
end Go.Proofs.YtclcfjejpogdlaaGreat.Wi
namespace Go.Proofs.YtclcfjejpogdlaaGreat.Wi
open Go Go.RowKit Go.Aw Go.Aw.Cart Go.Proofs.YtclcfjejpogdlaaGreat.Ca
set_option linter.unusedVariables false
set_option linter.unusedSimpArgs false
theorem bLt_irr : ∀ a, bLt a a = false
  | [] => rfl
  | x :: l => by rw [bLt, if_pos rfl]; exact bLt_irr l
theorem bLt_trans : ∀ {a b c : List Nat}, bLt a b = true → bLt b c = true → bLt a c = true
  | [], [], _, h, _ => by cases h
  | [], _ :: _, [], _, h => by cases h
  | [], _ :: _, _ :: _, _, _ => rfl
  | _ :: _, [], _, h, _ => by cases h
  | _ :: _, _ :: _, [], _, h => by cases h
  | x :: a, y :: b, z :: c, h1, h2 => by
    rw [bLt] at h1 h2 ⊢
    by_cases hxy : x = y
    · subst hxy
      rw [if_pos rfl] at h1
      by_cases hxz : x = z
      · subst hxz
        rw [if_pos rfl] at h2 ⊢
        exact bLt_trans h1 h2
      · rw [if_neg hxz] at h2 ⊢
        exact h2
    · rw [if_neg hxy] at h1
      have h1 := of_decide_eq_true h1
      by_cases hyz : y = z
      · subst hyz
        rw [if_neg hxy]
        exact decide_eq_true h1
      · rw [if_neg hyz] at h2
        have h2 := of_decide_eq_true h2
        rw [if_neg (by omega)]
        exact decide_eq_true (by omega)
theorem bLt_tri : ∀ {a b : List Nat}, bLt a b = false → bLt b a = false → a = b
  | [], [], _, _ => rfl
  | [], _ :: _, h, _ => by cases h
  | _ :: _, [], _, h => by cases h
  | x :: a, y :: b, h1, h2 => by
    rw [bLt] at h1 h2
    by_cases hxy : x = y
    · subst hxy
      rw [if_pos rfl] at h1 h2
      rw [bLt_tri h1 h2]
    · rw [if_neg hxy] at h1
      rw [if_neg (fun e => hxy e.symm)] at h2
      have h1 := of_decide_eq_false h1
      have h2 := of_decide_eq_false h2
      omega
theorem bLt_asym {a b : List Nat} (h : bLt a b = true) : bLt b a = false := by
  cases hb : bLt b a with
  | false => rfl
  | true => have := bLt_trans h hb; rw [bLt_irr] at this; cases this
/-- a list that may be -/
structure KOk (l : List Kd) : Prop where
  few : l.length ≤ 2000
  up : l.Pairwise fun a b => bLt a.1 b.1 = true
  key : ∀ e ∈ l, e.1.length ≤ 20
  cart : ∀ e ∈ l, rightF e.2.1 e.2.2 = true
theorem adj_kd {l : List Kd} (h : ∀ i, 0 < i → i < l.length → bLt (l.getD (i - 1) default).1 (l.getD i default).1 = true) : l.Pairwise fun a b => bLt a.1 b.1 = true := by
  have key : ∀ j, j < l.length → ∀ i, i < j → bLt (l.getD i default).1 (l.getD j default).1 = true := by
    intro j
    induction j with
    | zero => intro _ i hi; omega
    | succ j ih =>
      intro hj i hi
      have h1 := h (j + 1) (by omega) hj
      rw [Nat.add_sub_cancel] at h1
      by_cases e : i = j
      · rw [e]; exact h1
      · exact bLt_trans (ih (by omega) i (by omega)) h1
  rw [List.pairwise_iff_getElem]
  intro i j hi hj hij
  have := key j hj i hij
  rwa [getD_at hi, getD_at hj] at this
theorem keys_iff {l : List Kd} : keysF l = true ↔ KOk l := by
  unfold keysF kdOk
  rw [decide_eq_true_eq]
  constructor
  · rintro ⟨h1, h2⟩
    have h3 := fun i hi => h2 i hi
    simp only [Bool.and_eq_true, Bool.or_eq_true, decide_eq_true_eq] at h3
    refine ⟨h1, adj_kd fun i h0 hi => ((h3 i hi).2.1).resolve_left (by omega), fun e he => ?_, fun e he => ?_⟩
    · obtain ⟨i, hi, rfl⟩ := getD_mem he
      exact (h3 i hi).1
    · obtain ⟨i, hi, rfl⟩ := getD_mem he
      exact (h3 i hi).2.2
  · rintro ⟨h1, h2, h3, h4⟩
    refine ⟨h1, fun i hi => ?_⟩
    simp only [Bool.and_eq_true, Bool.or_eq_true, decide_eq_true_eq]
    have hm : l.getD i default ∈ l := by rw [getD_at hi]; exact List.getElem_mem _
    refine ⟨h3 _ hm, ?_, h4 _ hm⟩
    by_cases h0 : i = 0
    · exact .inl h0
    · right
      rw [getD_at hi, getD_at (show i - 1 < l.length by omega)]
      exact List.pairwise_iff_getElem.1 h2 (i - 1) i (by omega) hi (by omega)
/-- a key's cart, and whether there is one -/
def findK : List Kd → List Nat → Crt × Bool
  | [], _ => ((zeroV, []), false)
  | e :: l, k => if e.1 = k then (e.2, true) else findK l k
def setK (l : List Kd) (k : List Nat) (c : Crt) : List Kd := l.map fun e => if e.1 = k then (e.1, c) else e
/-- the place of the first key behind this one -/
def gtI : List Kd → List Nat → Nat
  | [], _ => 0
  | e :: l, k => if bLt k e.1 = true then 0 else gtI l k + 1
def hasK (l : List Kd) (k : List Nat) : Bool := l.any fun e => decide (e.1 = k)
def withK (l : List Kd) (k : List Nat) (c : Crt) : List Kd := if hasK l k = true then setK l k c else l.take (gtI l k) ++ (k, c) :: l.drop (gtI l k)
theorem hasK_iff {l : List Kd} {k : List Nat} : hasK l k = true ↔ ∃ e ∈ l, e.1 = k := by
  unfold hasK
  rw [List.any_eq_true]
  exact ⟨fun ⟨e, h1, h2⟩ => ⟨e, h1, of_decide_eq_true h2⟩, fun ⟨e, h1, h2⟩ => ⟨e, h1, decide_eq_true h2⟩⟩
end Go.Proofs.YtclcfjejpogdlaaGreat.Wi
namespace Go.Aw
open Go Go.RowKit
set_option linter.unusedVariables false
set_option linter.unusedSimpArgs false
theorem All2.set {α β : Type} {R : α → β → Prop} {l : List α} {m : List β} (h : All2 R l m) (i : Nat) {a : α} {b : β} (hab : R a b) : All2 R (l.set i a) (m.set i b) := by
  refine ⟨by simp [h.1], fun j x y hx hy => ?_⟩
  rw [List.getElem?_set] at hx hy
  by_cases hij : i = j
  · subst hij
    rw [if_pos rfl] at hx hy
    split at hx
    · rw [if_pos (by rw [← h.1]; assumption)] at hy
      cases hx; cases hy; exact hab
    · cases hx
  · rw [if_neg hij] at hx hy
    exact h.2 j x y hx hy
theorem ObjG.drew {mem : Nat → Nat × Option MO} {w : World} {G : Gh} (ho : ObjG mem w G) : ObjG mem w.drew G := {
  gens := ho.gens
  mem := fun x n mo hx => by
    obtain ⟨g2, m2, h1, h2, h3⟩ := ho.mem x n mo hx
    exact ⟨g2, m2, h1, h2, h3.mono (Mu.le.refl _) (fun b hb => ⟨hb, rfl⟩) fun _ _ => rfl⟩
  apart := ho.apart
  stab := ho.stab
  own := ho.own
  sbd := ho.sbd }
/-- what is known of an object, said in other words -/
theorem RelG.mem' {C : Ctx} {σ : St} {a : Act} {w : World} {G : Gh} (h : RelG C σ a w G) {o n : Nat} {mo mo' : MO} (hm : σ.mem o = (n, some mo)) (hh : ∀ μ X m fp, mo.holds μ X m fp → (μ o).length = n → (∀ g, n = g + 1 → (μ o)[g]? = some m) → mo'.holds μ X m fp) : ∃ G', RelG C (σ.put o (n, some mo')) a w G' := by
  have hlen : (G.μ o).length = n := by have := h.gens o; rw [hm] at this; exact this
  obtain ⟨g', m, hg, hmm, hx⟩ := h.mem o _ _ hm
  have eμ : (fun x => if x = o then G.μ o else G.μ x) = G.μ := by funext x; split <;> simp_all
  refine ⟨_, h.upd (o := o) (n' := n) (mo' := some mo') (μo := G.μ o) (fp' := G.φ o) (w' := w) (fun g x hx => hx) hlen rfl .same rfl (Nat.le_refl _) (fun _ _ _ => rfl) (fun b hb => ⟨.inl hb, (h.own o b hb).2⟩) (fun mo1 hmo => ?_)⟩
  obtain rfl := Option.some.inj hmo
  refine ⟨g', m, hg, hmm, ?_⟩
  rw [eμ]
  exact hh _ _ _ _ hx hlen fun g hgn => by obtain rfl : g' = g := by omega
                                           exact hmm
end Go.Aw
namespace Go.Aw
open Go Go.RowKit
set_option linter.unusedVariables false
set_option linter.unusedSimpArgs false
/-- an object whose content hangs on no block that stays -/
def MV (mo : MO) : Prop := ∀ μ X Y m fp, X.w = Y.w → mo.holds μ X m fp → mo.holds μ Y m fp
theorem MV.buf {ty es : Nat} {α : Type} {l : List α} {f : α → List Value} : MV (.buf ty es (l.map fun x => (f x).map PVal.v)) := by
  rintro μ X Y m fp hw ⟨h1, h2, h3, h4⟩
  refine ⟨h1, h2, h3, ?_⟩
  rcases h4 with h4 | ⟨b, arr, k1, k2, k3, k4, k5⟩
  · exact .inl h4
  · refine .inr ⟨b, arr, k1, k2, by rw [← hw]; exact k3, k4, fun i row hr => ⟨(k5 i row hr).1, fun j p hp => ?_⟩⟩
    obtain ⟨c, hc, hh⟩ := (k5 i row hr).2 j p hp
    refine ⟨c, hc, ?_⟩
    rw [List.getElem?_map] at hr
    cases hx : l[i]? with
    | none => rw [hx] at hr; cases hr
    | some x =>
      rw [hx] at hr; simp at hr; subst hr
      rw [List.getElem?_map] at hp
      cases hy : (f x)[j]? with
      | none => rw [hy] at hp; cases hp
      | some y => rw [hy] at hp; simp at hp; subst hp; exact hh
theorem MO.holds.fp {μ : Mu} {X : Wd} {ty : TypeId} {cs : List AC} {m : Option Nat × Nat} {fp : List Nat} (h : (MO.box ty cs).holds μ X m fp) : ∃ b, m.1 = some b ∧ fp = [b] := by
  obtain ⟨b, arr, h1, h2, _⟩ := h; exact ⟨b, h1, h2⟩
/-- of all that is known just this goes on: what follows reads its slots faster -/
theorem aws_sm {C : Ctx} {σ : St} {k : List Code} {c : Code} {Q : Exit → St → Prop} (e : List (Nat × AV)) (m : List (Nat × (Nat × Option MO))) (he : Knows σ.env e) (hm : Knows σ.mem m) (h : ∀ ν : Nat → Nat, AWs C (c :: k) Q ⟨ovl e fun _ => .un, ovl m fun o => (ν o, none)⟩) : AWs C (c :: k) Q σ := by
  intro a w ⟨G, hG⟩
  have ke : ∀ (e : List (Nat × AV)), Knows σ.env e → ∀ t, ovl e (fun _ => AV.un) t = σ.env t ∨ ovl e (fun _ => AV.un) t = .un := by
    intro e he
    induction he with
    | nil => exact fun t => .inr rfl
    | cons hv hl ih =>
      intro t
      simp only [ovl]
      split
      · rename_i ht; rw [ht]; exact .inl hv.symm
      · exact ih t
  have km : ∀ (m : List (Nat × (Nat × Option MO))), Knows σ.mem m → ∀ o, ovl m (fun o => ((σ.mem o).1, (none : Option MO))) o = σ.mem o ∨ ovl m (fun o => ((σ.mem o).1, (none : Option MO))) o = ((σ.mem o).1, none) := by
    intro m hm
    induction hm with
    | nil => exact fun t => .inr rfl
    | cons hv hl ih =>
      intro t
      simp only [ovl]
      split
      · rename_i ht; rw [ht]; exact .inl hv.symm
      · exact ih t
  refine h (fun o => (σ.mem o).1) a w ⟨G, ?_⟩
  exact {
    size := hG.size
    defers := hG.defers
    dnod := hG.dnod
    mle := hG.mle
    env := fun t => by
      show (ovl e (fun _ => AV.un) t).holds _ _ _
      rcases ke e he t with k | k <;> rw [k]
      · exact hG.env t
      · trivial
    gens := fun o => by
      show _ = (ovl m (fun o => ((σ.mem o).1, (none : Option MO))) o).1
      rcases km m hm o with k | k <;> rw [k]
      · exact hG.gens o
      · exact hG.gens o
    mem := fun o n mo ho => by
      have ho : ovl m (fun o => ((σ.mem o).1, (none : Option MO))) o = (n, some mo) := ho
      rcases km m hm o with k | k <;> rw [k] at ho
      · exact hG.mem o n mo ho
      · simp at ho
    apart := hG.apart
    stab := hG.stab
    own := hG.own
    sbd := hG.sbd
    ssub := hG.ssub
    fr := hG.fr }
end Go.Aw
namespace Go.Aw
open Go Go.RowKit
set_option linter.unusedVariables false
set_option linter.unusedSimpArgs false
section ops
variable {C : Ctx} {o : Oper} {σ : St}
/-- a string's length -/
theorem lop_len_sb {T : TypeId} {x : Operand} {sz by_ : Nat} {b : List Nat} (ho : o.op = .call ⟨.builtin .len, #[x], #[T]⟩) (hT : TI C.P T .string sz by_) (hx : σ.look x = .p (.v (.string (strOf b)))) (hd : dOk C o.dst = true) :
    LOp C o σ ⟨.p (.i b.length), []⟩ (fun _ => false) := by
  have := lop_len_str (hT := hT) ho hx hd
  rwa [strOf_size] at this
/-- a string's byte -/
theorem lop_ix_sb {T : TypeId} {x ix : Operand} {sz by_ : Nat} {b : List Nat} {k : IntKind} {i : Int} (ho : o.op = .index T x ix) (hT : TI C.P T .string sz by_) (hx : σ.look x = .p (.v (.string (strOf b)))) (hb : okB b) (hi : σ.look ix = .p (.v (.int k i))) (h0 : 0 ≤ i) (h1 : i < b.length) (hd : dOk C o.dst = true) :
    LOp C o σ ⟨.p (.k .u8 (b.getD i.toNat default : Nat)), []⟩ (fun _ => false) :=
  lop_val hd fun τ a w G hl' hm' h => by
    have e1 := val_of h ((hl' x (by simp [ho, Op.operands])).trans hx)
    have e2 := val_of h ((hl' ix (by simp [ho, Op.operands])).trans hi)
    obtain ⟨d, hdd, hkk⟩ := hT.undd
    have : d = .string := by cases d <;> simp [TK.of] at hkk; rfl
    subst this
    have hlt : i.toNat < b.length := by omega
    have hbd : 0 ≤ i ∧ i < ((strOf b).size : Int) := by rw [strOf_size]; exact ⟨h0, h1⟩
    have hlt2 : i.toNat < (strOf b).size := by rw [strOf_size]; exact hlt
    have hg : (strOf b)[i.toNat] = UInt8.ofNat b[i.toNat] := by
      show ((b.map UInt8.ofNat).toArray)[i.toNat]'(by simpa using hlt) = _
      simp
    have hby : (((strOf b)[i.toNat]).toNat : Int) = ((b.getD i.toNat default : Nat) : Int) := by
      rw [hg, List.getD_eq_getElem?_getD, List.getElem?_eq_getElem hlt]
      have := hb b[i.toNat] (List.getElem_mem _)
      simp; omega
    refine ⟨.int .u8 (((strOf b)[i.toNat]).toNat : Int), ?_, by rw [hby], rfl⟩
    simp [execOp, ho, e1, e2, Instr.index, asIntOf, run_underlying hdd, h0, hlt2]
end ops
end Go.Aw
