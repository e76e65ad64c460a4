/- the reference's reader: a cart; the reference's writers -/
import Derived.Test.YtlaeldgebecppaaGreatPL28
import Derived.Test.YtlaeldgebecppaaGreatPL31
namespace Go.Proofs.YtlaeldgebecppaaGreat.Wi
open Go Go.RowKit Go.Aw Go.Aw.Cart Go.Proofs.YtlaeldgebecppaaGreat.Ca
set_option linter.unusedVariables false
set_option linter.unusedSimpArgs false
set_option maxRecDepth 8000
set_option maxHeartbeats 4000000
theorem entS_at {r r1 r2 r3 r4 : RS} {a b d : Int} {c : Nat} (h1 : smallS 60 r = (a, r1)) (h2 : smallS 8 r1 = (b, r2)) (h3 : numS r2 = (c, r3)) (h4 : intS r3 = (d, r4)) : entS r = ((a, b, (c : Int), d), r4) := by
  simp only [entS, numZ, bindS, pureS, h1, h2, h3, h4]
open W8
attribute [local irreducible] vecS smallS entS cartS
theorem rftake_o (n : Nat) (b : List Nat) (r : RS) (hr : RfOk b r) : OCall Tryz.prog 92 [.o (.ptr 1000 n 0)] (memL [(1000, (n + 1, some (rfM b r)))]) (cV (cartS r).1.1 (cartS r).1.2 false) (memL [(1000, (n + 1, some (rfM b (cartS r).2)))]) := by
  refine ocall_of1 Tryz.func92 rfl (fun w0 F S0 M0 => ?_)
  have hv8 := vec_len8 r
  rw [cartS_eq]
  obtain ⟨V, r1, h1⟩ : ∃ a r1, vecS r = (a, r1) := pr_ex _
  have o1 : RfOk b r1 := by have := par_vec.rf hr; rwa [h1] at this
  haveI : ∀ p g m : Nat, OC Tryz.prog 160 [.o (.ptr p g 0)] [(p, (m, some (rfM b r)))] [] (m = g + 1) (.a (v8L V)) [(p, (m, some (rfM b r1)))] := fun p g m => ⟨fun h => by
    obtain rfl := h
    have := (rfvec_o g b r hr).one p
    rw [ren_vV, vV8 hv8, h1] at this
    exact this⟩
  rw [h1] at hv8 ⊢
  clear h1
  dsimp only at hv8 ⊢
  obtain ⟨k, hk⟩ := small_nat 400 r1
  obtain ⟨r2, h2⟩ : ∃ r2, (smallS 400 r1).2 = r2 := ⟨_, rfl⟩
  have o2 : RfOk b r2 := by have := (par_small 400).rf o1; rwa [h2] at this
  haveI : ∀ p g m : Nat, OC Tryz.prog 90 [.o (.ptr p g 0), .p (.i 400)] [(p, (m, some (rfM b r1)))] [] (m = g + 1) (.p (.i (k : Int))) [(p, (m, some (rfM b r2)))] := fun p g m => ⟨fun h => by obtain rfl := h; have := (rfsmall_o g b r1 400 (by decide) (by decide) o1).one p; rwa [hk, h2] at this⟩
  have hk4 : (k : Int) ≤ 400 := by rw [← hk]; exact small_le (by decide) r1
  rw [hk, h2, Int.toNat_natCast]
  clear hk h2
  have okS_is : ∀ (a z : Crt) (q : RS), okS a z q = (if q.2 = 0 then a else z, q) := fun _ _ _ => rfl
  rw [okS_is]
  repeat' (first | refine rnC ?_ | refine rnSB ?_ | refine rnG ?_ | refine rnU ?_ | ((fail_if_success (refine rnKn ?_)); refine rnP ?_ ?_ <;> (intro hq; try (have hq' := hq; simp only [hqs] at hq'))) | refine rkC ?_ | refine rkSB ?_ | refine rkF ?_ | refine rkU ?_ | ((fail_if_success (refine rkKn ?_)); refine rkP ?_ ?_ <;> (intro hq; try (have hq' := hq; simp only [hqs] at hq'))) | refine stp ?_ | refine ifT ?_ | refine ifF ?_ | (refine ifQ ?_ ?_ <;> (try (intro hn))) | (refine ifB ?_ ?_ <;> (intro hq; try (have hq' := hq; simp only [hqs] at hq'))))
  refine aws_says (says_nil_at (p := 3) (k := 8) (o := 901) (ty := 188) (es := 4) (ds := v8L V ++ [.osl 901 0 4 0 0]) rfl rfl rfl rfl (by decide) (by decide)) ?_
  refine aws_loopS [5, 6, 12, 13, 14, 15, 16, 17, 18, 19, 20, 21, 22, 23, 24, 25, 26, 27, 28, 29, 30, 31, 32, 33, 34, 35, 36, 37, 38, 39, 40, 41] [1000, 3, 901, 6] (fun (x : Nat × Nat × List Ent × RS × Option MO) => [(5, .p (.i x.1))]) (fun x => [(1000, (n + 1, some (rfM b x.2.2.2.1))), (3, (1, some (.box 111 (v8L V ++ [.osl 901 x.2.1 4 0 x.2.2.1.length])))), (901, (x.2.1 + 1, some (.buf 188 4 (x.2.2.1.map eR)))), (6, (x.1, x.2.2.2.2))])
    (fun x => x.1 ≤ k ∧ manyS entS x.1 r2 = (x.2.2.1, x.2.2.2.1)) (fun x => k - x.1) (0, 0, [], r2, none) ⟨Nat.zero_le _, rfl⟩ (by exact knA) (by exact knA) ?_
  rintro ⟨i, g, L, q, c6⟩ β γ ⟨hi, hL⟩
  dsimp only at hi hL ⊢
  have hll : L.length ≤ 400 := by have := many_len entS r2 i; rw [hL] at this; dsimp only at this; omega
  have oq : RfOk b q := by have := (par_many par_ent i).rf o2; rwa [hL] at this
  by_cases hik : i < k ∧ q.2 = 0
  · obtain ⟨hik, hq⟩ := hik
    have d1 : decide ((i : Int) < (k : Int)) = true := decide_eq_true (by omega)
    have d2 : decide (q.2 = 0) = true := decide_eq_true hq
    have hn : manyS entS (i + 1) r2 = (L ++ [(entS q).1], (entS q).2) := by rw [manyS, hL, if_pos hq]
    obtain ⟨e1, q1, h1⟩ := pr_ex (smallS 60 q)
    have oq1 : RfOk b q1 := by have := (par_small 60).rf oq; rwa [h1] at this
    obtain ⟨e2, q2, h2⟩ := pr_ex (smallS 8 q1)
    have oq2 : RfOk b q2 := by have := (par_small 8).rf oq1; rwa [h2] at this
    obtain ⟨e3, q3, h3⟩ := pr_ex (numS q2)
    have oq3 : RfOk b q3 := by have := par_num.rf oq2; rwa [h3] at this
    obtain ⟨e4, q4, h4⟩ := pr_ex (intS q3)
    rw [entS_at h1 h2 h3 h4] at hn
    dsimp only at hn
    obtain ⟨e, he⟩ : ∃ e : Ent, e = (e1, e2, (e3 : Int), e4) := ⟨_, rfl⟩
    rw [← he] at hn
    haveI : ∀ p g m : Nat, OC Tryz.prog 90 [.o (.ptr p g 0), .p (.i 60)] [(p, (m, some (rfM b q)))] [] (m = g + 1) (.p (.i e.1)) [(p, (m, some (rfM b q1)))] := fun p g m => ⟨fun h => by obtain rfl := h; have := (rfsmall_o g b q 60 (by decide) (by decide) oq).one p; rw [h1] at this; rw [he]; exact this⟩
    haveI : ∀ p g m : Nat, OC Tryz.prog 90 [.o (.ptr p g 0), .p (.i 8)] [(p, (m, some (rfM b q1)))] [] (m = g + 1) (.p (.i e.2.1)) [(p, (m, some (rfM b q2)))] := fun p g m => ⟨fun h => by obtain rfl := h; have := (rfsmall_o g b q1 8 (by decide) (by decide) oq1).one p; rw [h2] at this; rw [he]; exact this⟩
    haveI : ∀ p g m : Nat, OC Tryz.prog 121 [.o (.ptr p g 0)] [(p, (m, some (rfM b q2)))] [] (m = g + 1) (.p (.k .u64 e.2.2.1)) [(p, (m, some (rfM b q3)))] := fun p g m => ⟨fun h => by obtain rfl := h; have := (rfnum_o g b q2 oq2).one p; rw [h3] at this; rw [he]; exact this⟩
    haveI : ∀ p g m : Nat, OC Tryz.prog 161 [.o (.ptr p g 0)] [(p, (m, some (rfM b q3)))] [] (m = g + 1) (.p (.i e.2.2.2)) [(p, (m, some (rfM b q4)))] := fun p g m => ⟨fun h => by obtain rfl := h; have := (rfint_o g b q3 oq3).one p; rw [h4] at this; rw [he]; exact this⟩
    clear he h1 h2 h3 h4 oq oq1 oq2 oq3
    as_aux_lemma =>
      repeat' (first | refine rnC ?_ | refine rnSB ?_ | refine rnG ?_ | refine rnU ?_ | ((fail_if_success (refine rnKn ?_)); refine rnP ?_ ?_ <;> (intro hq; try (have hq' := hq; simp only [hqs] at hq'))) | refine rkC ?_ | refine rkSB ?_ | refine rkF ?_ | refine rkU ?_ | ((fail_if_success (refine rkKn ?_)); refine rkP ?_ ?_ <;> (intro hq; try (have hq' := hq; simp only [hqs] at hq'))) | refine stp ?_ | refine ifT ?_ | refine ifF ?_ | (refine ifQ ?_ ?_ <;> (try (intro hn))) | (refine ifB ?_ ?_ <;> (intro hq; try (have hq' := hq; simp only [hqs] at hq'))))
      exact ⟨(i + 1, g + 1, L ++ [e], q4, _), _, by dsimp only; omega, ⟨by dsimp only; omega, hn⟩, .refl, by exact frA⟩
  · have hm : manyS entS k r2 = (L, q) := by
      by_cases h : i < k
      · have hq : q.2 ≠ 0 := fun hq => hik ⟨h, hq⟩
        have := many_bad (P := entS) r2 (k := i) (by rw [hL]; exact hq) (k - i)
        rw [show i + (k - i) = k by omega] at this
        rw [this, hL]
      · rw [show k = i by omega, hL]
    have hex : decide ((i : Int) < (k : Int)) = false ∨ (decide ((i : Int) < (k : Int)) = true ∧ decide (q.2 = 0) = false) := by
      by_cases h : i < k
      · exact .inr ⟨decide_eq_true (by omega), decide_eq_false fun hq => hik ⟨h, hq⟩⟩
      · exact .inl (decide_eq_false (by omega))
    rw [hm]
    dsimp only
    clear hm hL hik
    haveI : PC Tryz.prog 96 [cV V L false] True (.p (.b (rightF V L))) := ⟨fun _ => Cr.right_r V L false hv8 (by omega)⟩
    refine aws_says (says_frz_at (p := 3) (k := 8) (o := 901) (ds := cL V L false) rfl rfl rfl rfl rfl (by rw [List.length_map]) (by decide)) ?_
    generalize rightF V L = B at this ⊢
    haveI m2 : OC Tryz.prog 122 [.o (.ptr 1000 n 0), .p (.b B)] [(1000, (n + 1, some (rfM b q)))] [] True (.tup []) [(1000, (n + 1, some (rfM b (mustS B q))))] := ⟨fun _ => (rmust_o n b q B).one 1000⟩
    generalize mustS B q = q2 at m2 ⊢
    by_cases hz : q2.2 = 0
    · have d4 : decide (q2.2 ≠ 0) = false := decide_eq_false fun h => h hz
      rw [if_pos hz]
      rcases hex with d1 | ⟨d1, d2⟩
      all_goals
        as_aux_lemma =>
          repeat' (first | refine rnC ?_ | refine rnSB ?_ | refine rnG ?_ | refine rnU ?_ | ((fail_if_success (refine rnKn ?_)); refine rnP ?_ ?_ <;> (intro hq; try (have hq' := hq; simp only [hqs] at hq'))) | refine rkC ?_ | refine rkSB ?_ | refine rkF ?_ | refine rkU ?_ | ((fail_if_success (refine rkKn ?_)); refine rkP ?_ ?_ <;> (intro hq; try (have hq' := hq; simp only [hqs] at hq'))) | refine stp ?_ | refine ifT ?_ | refine ifF ?_ | (refine ifQ ?_ ?_ <;> (try (intro hn))) | (refine ifB ?_ ?_ <;> (intro hq; try (have hq' := hq; simp only [hqs] at hq'))))
          exact RetO.mk (oc1 rfl rfl rfl rfl rfl rfl finL_p rfl) ⟨.box finL_p, trivial⟩
    · have d4 : decide (q2.2 ≠ 0) = true := decide_eq_true hz
      rw [if_neg hz]
      rcases hex with d1 | ⟨d1, d2⟩
      all_goals
        as_aux_lemma =>
          repeat' (first | refine rnC ?_ | refine rnSB ?_ | refine rnG ?_ | refine rnU ?_ | ((fail_if_success (refine rnKn ?_)); refine rnP ?_ ?_ <;> (intro hq; try (have hq' := hq; simp only [hqs] at hq'))) | refine rkC ?_ | refine rkSB ?_ | refine rkF ?_ | refine rkU ?_ | ((fail_if_success (refine rkKn ?_)); refine rkP ?_ ?_ <;> (intro hq; try (have hq' := hq; simp only [hqs] at hq'))) | refine stp ?_ | refine ifT ?_ | refine ifF ?_ | (refine ifQ ?_ ?_ <;> (try (intro hn))) | (refine ifB ?_ ?_ <;> (intro hq; try (have hq' := hq; simp only [hqs] at hq'))))
          exact RetO.mk (oc1 rfl rfl rfl rfl rfl rfl fin9 rfl) ⟨.box finL_p, trivial⟩
end Go.Proofs.YtlaeldgebecppaaGreat.Wi
namespace Go.Proofs.YtlaeldgebecppaaGreat.Wi
open Go Go.RowKit Go.Aw Go.Aw.Cart Go.Proofs.YtlaeldgebecppaaGreat.Ca
set_option linter.unusedVariables false
set_option linter.unusedSimpArgs false
set_option maxRecDepth 8000
set_option maxHeartbeats 4000000
/-- one byte, written out, that grows from now on -/
theorem lop_boB {C : Ctx} {o : Oper} {σ : St} {T e : TypeId} {sz by_ : Nat} {ke : TK} {be : Nat} {z : List Value} {d n0 : Nat} {mo0 : Option MO} {x0 : Operand} {m : Int} {v : Nat} (ho : o.op = .buildSlice T 1 #[(0, x0)]) (hT : TI C.P T (.slice e) sz by_) (he : TI C.P e ke 1 be) (hz : TZ C.P e z) (hdst : o.dst = some d) (hm0 : σ.mem d = (n0, mo0)) (h0 : σ.look x0 = .p (.v (.int .u8 m))) (hv : m = (v : Int)) (hd : dOk C o.dst = true) :
    LOp C o σ ⟨.o (.osl d n0 1 0 ([v] : List Nat).length), [(d, (n0 + 1, some (.buf e 1 (([v] : List Nat).map bR))))]⟩ (fun q => q == d) := by
  subst hv
  exact lop_bo1 ho hT he hz hdst hm0 h0 hd
theorem be_is {f x : Nat} {l : List Nat} {n : Nat} (h : beF (f + 1) x ++ l = be n) (hx : x ≠ 0) : beF f (x / 256) ++ ([x % 256] ++ l) = be n := by
  rw [beF, if_neg hx, List.append_assoc] at h
  exact h
theorem refNum_w (n : Nat) (hn : n < 18446744073709551616) : PCall Tryz.prog 97 [.p (.k .u64 (n : Int))] (.p (.sl 1 ((numB n).map bR) false)) := by
  refine pcall_of Tryz.func97 rfl (fun w0 F S0 M0 => ?_)
  open W6 in
  repeat' (first | refine rnC ?_ | refine rnSB ?_ | refine rnG ?_ | refine rnU ?_ | ((fail_if_success (refine rnKn ?_)); refine rnP ?_ ?_ <;> (intro hq; try (have hq' := hq; simp only [hqs] at hq'))) | refine rkC ?_ | refine rkSB ?_ | refine rkF ?_ | refine rkU ?_ | ((fail_if_success (refine rkKn ?_)); refine rkP ?_ ?_ <;> (intro hq; try (have hq' := hq; simp only [hqs] at hq'))) | refine stp ?_ | refine ifT ?_ | refine ifF ?_ | (refine ifQ ?_ ?_ <;> (try (intro hn))) | (refine ifB ?_ ?_ <;> (intro hq; try (have hq' := hq; simp only [hqs] at hq'))))
  refine aws_says (says_nils (t := 3) (es := 1) rfl) ?_
  refine aws_says (says_inex (t := 3) rfl) ?_
  refine aws_loopS [0, 3, 4, 5, 6, 7, 8, 9, 10, 11, 12, 13] [] (fun (x : Nat × Nat × List Nat) => [(0, .p (.k .u64 (x.2.1 : Int))), (3, .p (.sl 1 (x.2.2.map bR) false))]) (fun _ => []) (fun x => x.2.1 < 256 ^ x.1 ∧ beF x.1 x.2.1 ++ x.2.2 = be n ∧ x.1 ≤ 8) (fun x => x.1) (8, n, []) ⟨by show n < 256 ^ 8; exact hn, List.append_nil _, Nat.le_refl _⟩ (by exact knA) (by exact knA) ?_
  rintro ⟨f, x, l⟩ β γ ⟨hx, hl, hf⟩
  dsimp only at hx hl hf ⊢
  have hll : l.length ≤ 8 := by
    have := congrArg List.length hl
    have h8 := beF_le 8 n
    rw [List.length_append] at this
    have h9 : (be n).length = (beF 8 n).length := rfl
    omega
  by_cases h0 : x = 0
  · have d1 : decide (0 < (x : Int)) = false := decide_eq_false (by omega)
    have e : numB n = [l.length] ++ l := by
      unfold numB
      rw [← hl, h0, beF_zero, List.nil_append]; rfl
    have hw : IntKind.u8.wrap (l.length : Int) = (l.length : Int) := u8_in (by omega)
    rw [e]
    clear hl
    open W6 in
    as_aux_lemma =>
      repeat' (first | refine rnC ?_ | refine rnSB ?_ | refine rnG ?_ | refine rnU ?_ | ((fail_if_success (refine rnKn ?_)); refine rnP ?_ ?_ <;> (intro hq; try (have hq' := hq; simp only [hqs] at hq'))) | refine rkC ?_ | refine rkSB ?_ | refine rkF ?_ | refine rkU ?_ | ((fail_if_success (refine rkKn ?_)); refine rkP ?_ ?_ <;> (intro hq; try (have hq' := hq; simp only [hqs] at hq'))) | refine stp ?_ | refine ifT ?_ | refine ifF ?_ | (refine ifQ ?_ ?_ <;> (try (intro hn))) | (refine ifB ?_ ?_ <;> (intro hq; try (have hq' := hq; simp only [hqs] at hq'))))
      exact rt1 rfl rfl finS_p rfl
  · have d1 : decide (0 < (x : Int)) = true := decide_eq_true (by omega)
    obtain ⟨g, rfl⟩ : ∃ g, f = g + 1 := by
      cases f with
      | zero => rw [Nat.pow_zero] at hx; omega
      | succ g => exact ⟨g, rfl⟩
    have hnx := be_is hl h0
    have hx8 : x < 18446744073709551616 := Nat.lt_of_lt_of_le hx (Nat.pow_le_pow_right (by decide) hf : 256 ^ (g + 1) ≤ 256 ^ 8)
    have hdv : x / 256 % md .u64 = x / 256 := by rw [show md .u64 = 18446744073709551616 from rfl]; omega
    have hw : IntKind.u8.wrap ((x % 256 : Nat) : Int) = ((x % 256 : Nat) : Int) := u8_in (by omega)
    clear hl
    open W6 in
    as_aux_lemma =>
      repeat' (first | refine rnC ?_ | refine rnSB ?_ | refine rnG ?_ | refine rnU ?_ | ((fail_if_success (refine rnKn ?_)); refine rnP ?_ ?_ <;> (intro hq; try (have hq' := hq; simp only [hqs] at hq'))) | refine rkC ?_ | refine rkSB ?_ | refine rkF ?_ | refine rkU ?_ | ((fail_if_success (refine rkKn ?_)); refine rkP ?_ ?_ <;> (intro hq; try (have hq' := hq; simp only [hqs] at hq'))) | refine stp ?_ | refine ifT ?_ | refine ifF ?_ | (refine ifQ ?_ ?_ <;> (try (intro hn))) | (refine ifB ?_ ?_ <;> (intro hq; try (have hq' := hq; simp only [hqs] at hq'))))
      exact ⟨(g, x / 256 % md .u64, [x % 256] ++ l), _, by dsimp only; omega, ⟨by dsimp only; rw [hdv]; rw [Nat.pow_succ] at hx; omega, by dsimp only; rw [hdv]; exact hnx, by dsimp only; omega⟩, .refl, by exact frA⟩
namespace PW3
end PW3
theorem refNum_o (n : Nat) (hn : n < 18446744073709551616) : OCall Tryz.prog 97 [.p (.k .u64 (n : Int))] (fun _ => (0, none)) (.o (.osl 17 1 1 0 (numB n).length)) (memL [(17, (2, some (.buf 5 1 ((numB n).map bR))))]) := by
  refine ocall_ofF 17 Tryz.func97 rfl (fun w0 F S0 M0 => ?_)
  open W6 in
  repeat' (first | refine rnC ?_ | refine rnSB ?_ | refine rnG ?_ | refine rnU ?_ | ((fail_if_success (refine rnKn ?_)); refine rnP ?_ ?_ <;> (intro hq; try (have hq' := hq; simp only [hqs] at hq'))) | refine rkC ?_ | refine rkSB ?_ | refine rkF ?_ | refine rkU ?_ | ((fail_if_success (refine rkKn ?_)); refine rkP ?_ ?_ <;> (intro hq; try (have hq' := hq; simp only [hqs] at hq'))) | refine stp ?_ | refine ifT ?_ | refine ifF ?_ | (refine ifQ ?_ ?_ <;> (try (intro hn))) | (refine ifB ?_ ?_ <;> (intro hq; try (have hq' := hq; simp only [hqs] at hq'))))
  refine aws_says (says_nils (t := 3) (es := 1) rfl) ?_
  refine aws_says (says_inex (t := 3) rfl) ?_
  refine aws_loopS [0, 3, 4, 5, 6, 7, 8, 9, 10, 11, 12, 13] [] (fun (x : Nat × Nat × List Nat) => [(0, .p (.k .u64 (x.2.1 : Int))), (3, .p (.sl 1 (x.2.2.map bR) false))]) (fun _ => []) (fun x => x.2.1 < 256 ^ x.1 ∧ beF x.1 x.2.1 ++ x.2.2 = be n ∧ x.1 ≤ 8) (fun x => x.1) (8, n, []) ⟨by show n < 256 ^ 8; exact hn, List.append_nil _, Nat.le_refl _⟩ (by exact knA) (by exact knA) ?_
  rintro ⟨f, x, l⟩ β γ ⟨hx, hl, hf⟩
  dsimp only at hx hl hf ⊢
  have hll : l.length ≤ 8 := by
    have := congrArg List.length hl
    have h8 := beF_le 8 n
    rw [List.length_append] at this
    have h9 : (be n).length = (beF 8 n).length := rfl
    omega
  by_cases h0 : x = 0
  · have d1 : decide (0 < (x : Int)) = false := decide_eq_false (by omega)
    have e : numB n = [l.length] ++ l := by
      unfold numB
      rw [← hl, h0, beF_zero, List.nil_append]; rfl
    have hw : IntKind.u8.wrap (l.length : Int) = (l.length : Int) := u8_in (by omega)
    rw [e]
    clear hl
    repeat (first | refine stp ?_ | fail)
    refine W6.rnC ?_
    refine W6.rnC ?_
    repeat (first | refine stp ?_ | refine ifT ?_ | refine ifF ?_ | fail)
    refine W6.rnC ?_
    refine W6.rnC ?_
    refine W6.rnC ?_
    refine rn_any (gd_n rfl rfl) rfl (lop_boB (v := l.length) rfl inferInstance inferInstance inferInstance rfl rfl rfl rfl rfl) ?_
    open W6 in
    as_aux_lemma =>
      repeat' (first | refine rnC ?_ | refine rnSB ?_ | refine rnG ?_ | refine rnU ?_ | ((fail_if_success (refine rnKn ?_)); refine rnP ?_ ?_ <;> (intro hq; try (have hq' := hq; simp only [hqs] at hq'))) | refine rkC ?_ | refine rkSB ?_ | refine rkF ?_ | refine rkU ?_ | ((fail_if_success (refine rkKn ?_)); refine rkP ?_ ?_ <;> (intro hq; try (have hq' := hq; simp only [hqs] at hq'))) | refine stp ?_ | refine ifT ?_ | refine ifF ?_ | (refine ifQ ?_ ?_ <;> (try (intro hn))) | (refine ifB ?_ ?_ <;> (intro hq; try (have hq' := hq; simp only [hqs] at hq'))))
      exact RetO.mk (ot1 rfl rfl (.one (.kosl rfl)) rfl) ⟨.buf, trivial⟩
  · have d1 : decide (0 < (x : Int)) = true := decide_eq_true (by omega)
    obtain ⟨g, rfl⟩ : ∃ g, f = g + 1 := by
      cases f with
      | zero => rw [Nat.pow_zero] at hx; omega
      | succ g => exact ⟨g, rfl⟩
    have hnx := be_is hl h0
    have hx8 : x < 18446744073709551616 := Nat.lt_of_lt_of_le hx (Nat.pow_le_pow_right (by decide) hf : 256 ^ (g + 1) ≤ 256 ^ 8)
    have hdv : x / 256 % md .u64 = x / 256 := by rw [show md .u64 = 18446744073709551616 from rfl]; omega
    have hw : IntKind.u8.wrap ((x % 256 : Nat) : Int) = ((x % 256 : Nat) : Int) := u8_in (by omega)
    clear hl
    open W6 in
    as_aux_lemma =>
      repeat' (first | refine rnC ?_ | refine rnSB ?_ | refine rnG ?_ | refine rnU ?_ | ((fail_if_success (refine rnKn ?_)); refine rnP ?_ ?_ <;> (intro hq; try (have hq' := hq; simp only [hqs] at hq'))) | refine rkC ?_ | refine rkSB ?_ | refine rkF ?_ | refine rkU ?_ | ((fail_if_success (refine rkKn ?_)); refine rkP ?_ ?_ <;> (intro hq; try (have hq' := hq; simp only [hqs] at hq'))) | refine stp ?_ | refine ifT ?_ | refine ifF ?_ | (refine ifQ ?_ ?_ <;> (try (intro hn))) | (refine ifB ?_ ?_ <;> (intro hq; try (have hq' := hq; simp only [hqs] at hq'))))
      exact ⟨(g, x / 256 % md .u64, [x % 256] ++ l), _, by dsimp only; omega, ⟨by dsimp only; rw [hdv]; rw [Nat.pow_succ] at hx; omega, by dsimp only; rw [hdv]; exact hnx, by dsimp only; omega⟩, .refl, by exact frA⟩
end Go.Proofs.YtlaeldgebecppaaGreat.Wi
