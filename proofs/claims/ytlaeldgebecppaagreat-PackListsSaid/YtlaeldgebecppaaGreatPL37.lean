/- the reference's reader: a list; a list as the reference's; the reference's lists: equal ones are the same -/
import Derived.Test.YtlaeldgebecppaaGreatPL32
import Derived.Test.YtlaeldgebecppaaGreatPL35
import Derived.Test.YtlaeldgebecppaaGreatPL36
namespace Go.Proofs.YtlaeldgebecppaaGreat.Wi
open Go Go.RowKit Go.Aw Go.Aw.Cart Go.Proofs.YtlaeldgebecppaaGreat.Ca
set_option linter.unusedVariables false
set_option linter.unusedSimpArgs false
set_option maxRecDepth 8000
set_option maxHeartbeats 4000000
open WA
theorem atI_0 (b : List Nat) : atI b (b, 0) = 0 := by unfold atI; dsimp only; omega
/-- all cells of a variable but the first one, turned -/
theorem lop_st_t9 {C : Ctx} {o : Oper} {σ : St} {T : TypeId} {x y : Operand} {k : TK} {sz by_ : Nat} {ob g n : Nat} {ty : TypeId} {c0 : AC} {cs ds : List AC} (ho : o.op = .store T x y) (hT : TI C.P T k sz by_) (hdst : o.dst = none) (hx : σ.look x = .o (.ptr ob g (0 + 1))) (hy : σ.look y = .a ds) (hm : σ.mem ob = (n, some (.box ty (c0 :: cs)))) (hn : n = g + 1)
    (hl : cs.length = 9) (hd : ds.length = 9) (hs : sz = 9) : LOp C o σ ⟨.un, [(ob, (n, some (.box ty (c0 :: ds))))]⟩ (fun z => z == ob) := by
  have := lop_store (o := o) (hT := hT) (s := .agg ds) ho hdst hx hy hm hn (by simp; omega) (by simp [SV.cells]; omega)
  rw [hs] at this
  have e : (c0 :: cs).take (0 + 1) ++ SV.cells (.agg ds) ++ (c0 :: cs).drop (0 + 1 + 9) = c0 :: ds := by
    rw [List.drop_of_length_le (by simp; omega), List.append_nil]; rfl
  rwa [e] at this
attribute [local irreducible] vecS smallS entS cartS textS kdS
theorem refReadAll_w (b : List Nat) (hb : okB b) (hbl : b.length ≤ 1000000000) : PCall Tryz.prog 30 [.p (.sl 1 (b.map bR) false)] (.tup [.one (.p (.sl 10 ((readL b).1.map kR) false)), .one (.p (.b (decide ((readL b).2 = 0))))]) := by
  refine pcall_of Tryz.func30 rfl (fun w0 F S0 M0 => ?_)
  have o1 : RfOk b (b, 0) := ⟨hb, List.suffix_refl _, hbl⟩
  unfold readL
  rw [listS_eq]
  obtain ⟨k, hk⟩ := small_nat 2000 (b, 0)
  have hk2 : (k : Int) ≤ 2000 := by rw [← hk]; exact small_le (by decide) _
  obtain ⟨r2, h2⟩ : ∃ r2, (smallS 2000 (b, 0)).2 = r2 := ⟨_, rfl⟩
  have o2 : RfOk b r2 := by have := (par_small 2000).rf o1; rwa [h2] at this
  have o2' : rdOk r2 := ⟨o2.byte, o2.rd⟩
  haveI : ∀ p g m : Nat, OC Tryz.prog 90 [.o (.ptr p g 0), .p (.i 2000)] [(p, (m, some (.box 151 [.p (.sl 1 (b.map bR) false), .p (.i 0), .p (.i 0)])))] [] (m = g + 1) (.p (.i (k : Int))) [(p, (m, some (rfM b r2)))] := fun p g m => ⟨fun h => by
    obtain rfl := h
    have := (rfsmall_o g b (b, 0) 2000 (by decide) (by decide) o1).one p
    rw [hk, h2] at this
    unfold rfM at this
    rw [atI_0] at this
    exact this⟩
  rw [hk, h2, Int.toNat_natCast]
  clear hk h2
  repeat' (first | refine rnC ?_ | refine rnSB ?_ | refine rnG ?_ | refine rnU ?_ | ((fail_if_success (refine rnKn ?_)); refine rnP ?_ ?_ <;> (intro hq; try (have hq' := hq; simp only [hqs] at hq'))) | refine rkC ?_ | refine rkSB ?_ | refine rkF ?_ | refine rkU ?_ | ((fail_if_success (refine rkKn ?_)); refine rkP ?_ ?_ <;> (intro hq; try (have hq' := hq; simp only [hqs] at hq'))) | refine stp ?_ | refine ifT ?_ | refine ifF ?_ | (refine ifQ ?_ ?_ <;> (try (intro hn))) | (refine ifB ?_ ?_ <;> (intro hq; try (have hq' := hq; simp only [hqs] at hq'))))
  refine aws_says (says_nil (t := 6) (o := 901) (ty := 114) (es := 10) rfl rfl (by decide)) ?_
  refine aws_loopS [6, 7, 8, 14, 15, 16, 17, 18, 19, 20, 21, 22, 23, 24, 25, 26, 27, 28, 29, 30, 31, 32, 33, 34, 35, 36] [11, 901, 8] (fun (x : Nat × Nat × List Kd × RS × Option MO) => [(7, .p (.i x.1)), (6, .o (.osl 901 x.2.1 10 0 x.2.2.1.length))]) (fun x => [(11, (1, some (rfM b x.2.2.2.1))), (901, (x.2.1 + 1, some (.buf 114 10 (x.2.2.1.map kR)))), (8, (x.1, x.2.2.2.2))])
    (fun x => x.1 ≤ k ∧ manyS kdS x.1 r2 = (x.2.2.1, x.2.2.2.1)) (fun x => k - x.1) (0, 0, [], r2, none) ⟨Nat.zero_le _, rfl⟩ (by exact knA) (by exact knA) ?_
  rintro ⟨i, g, L, q, c8⟩ β γ ⟨hi, hL⟩
  dsimp only at hi hL ⊢
  have hll : L.length ≤ 2000 := by have := many_len kdS r2 i; rw [hL] at this; dsimp only at this; omega
  have oq : RfOk b q := by have := (par_many par_kd i).rf o2; rwa [hL] at this
  by_cases hik : i < k ∧ q.2 = 0
  · obtain ⟨hik, hq⟩ := hik
    have d1 : decide ((i : Int) < (k : Int)) = true := decide_eq_true (by omega)
    have d2 : decide (q.2 = 0) = true := decide_eq_true hq
    have hn : manyS kdS (i + 1) r2 = (L ++ [(kdS q).1], (kdS q).2) := by rw [manyS, hL, if_pos hq]
    rw [kdS_eq] at hn
    have ht := text_fit (most := 20) (by decide) q ⟨oq.byte, oq.rd⟩
    obtain ⟨k1, q1, h1⟩ := pr_ex (textS 20 q)
    have oq1 : RfOk b q1 := by have := (par_text 20).rf oq; rwa [h1] at this
    obtain ⟨c1, q2, h3⟩ := pr_ex (cartS q1)
    rw [h1] at hn ht
    dsimp only at hn ht
    rw [h3] at hn
    dsimp only at hn
    obtain ⟨e, he⟩ : ∃ e : Kd, e = (k1, c1) := ⟨_, rfl⟩
    rw [← he] at hn
    have hel : e.1.length ≤ 1000 := by rw [he]; have := ht.2; dsimp only; omega
    haveI : ∀ p g m : Nat, OC Tryz.prog 91 [.o (.ptr p g 0), .p (.i 20)] [(p, (m, some (rfM b q)))] [] (m = g + 1) (.p (.sl 1 (e.1.map bR) false)) [(p, (m, some (rfM b q1)))] := fun p g m => ⟨fun h => by obtain rfl := h; have := (rftext_o g b q 20 (by decide) (by decide) oq).one p; rw [h1] at this; rw [he]; exact this⟩
    haveI : ∀ p g m : Nat, OC Tryz.prog 92 [.o (.ptr p g 0)] [(p, (m, some (rfM b q1)))] [] (m = g + 1) (cV e.2.1 e.2.2 false) [(p, (m, some (rfM b q2)))] := fun p g m => ⟨fun h => by obtain rfl := h; have := (rftake_o g b q1 oq1).one p; rw [h3] at this; rw [he]; exact this⟩
    clear he h1 h3 ht oq oq1
    repeat' (first | refine rnC ?_ | refine rnSB ?_ | refine rnG ?_ | refine rnU ?_ | ((fail_if_success (refine rnKn ?_)); refine rnP ?_ ?_ <;> (intro hq; try (have hq' := hq; simp only [hqs] at hq'))) | refine rkC ?_ | refine rkSB ?_ | refine rkF ?_ | refine rkU ?_ | ((fail_if_success (refine rkKn ?_)); refine rkP ?_ ?_ <;> (intro hq; try (have hq' := hq; simp only [hqs] at hq'))) | refine stp ?_ | refine ifT ?_ | refine ifF ?_ | (refine ifQ ?_ ?_ <;> (try (intro hn))) | (refine ifB ?_ ?_ <;> (intro hq; try (have hq' := hq; simp only [hqs] at hq'))))
    refine rn_sto (gd_n rfl rfl) rfl (lop_st_t9 (ds := cL e.2.1 e.2.2 false) rfl inferInstance rfl rfl rfl rfl rfl rfl rfl rfl) ?_
    as_aux_lemma =>
      repeat' (first | refine rnC ?_ | refine rnSB ?_ | refine rnG ?_ | refine rnU ?_ | ((fail_if_success (refine rnKn ?_)); refine rnP ?_ ?_ <;> (intro hq; try (have hq' := hq; simp only [hqs] at hq'))) | refine rkC ?_ | refine rkSB ?_ | refine rkF ?_ | refine rkU ?_ | ((fail_if_success (refine rkKn ?_)); refine rkP ?_ ?_ <;> (intro hq; try (have hq' := hq; simp only [hqs] at hq'))) | refine stp ?_ | refine ifT ?_ | refine ifF ?_ | (refine ifQ ?_ ?_ <;> (try (intro hn))) | (refine ifB ?_ ?_ <;> (intro hq; try (have hq' := hq; simp only [hqs] at hq'))))
      exact ⟨(i + 1, g + 1, L ++ [e], q2, _), _, by dsimp only; omega, ⟨by dsimp only; omega, hn⟩, .refl, by exact frA⟩
  · have hm : manyS kdS k r2 = (L, q) := by
      by_cases h : i < k
      · have hq : q.2 ≠ 0 := fun hq => hik ⟨h, hq⟩
        have := many_bad (P := kdS) r2 (k := i) (by rw [hL]; exact hq) (k - i)
        rw [show i + (k - i) = k by omega] at this
        rw [this, hL]
      · rw [show k = i by omega, hL]
    have hex : decide ((i : Int) < (k : Int)) = false ∨ (decide ((i : Int) < (k : Int)) = true ∧ decide (q.2 = 0) = false) := by
      by_cases h : i < k
      · exact .inr ⟨decide_eq_true (by omega), decide_eq_false fun hq => hik ⟨h, hq⟩⟩
      · exact .inl (decide_eq_false (by omega))
    have hall := many_all par_kd (Q := fun e => KdI e ∧ e.2.2.length ≤ 400) kd_fit r2 o2' k
    rw [hm] at hall ⊢
    dsimp only at hall ⊢
    haveI hR : PC Tryz.prog 32 [.p (.sl 10 (L.map kR) false)] True (.p (.b (keysF L))) := ⟨fun _ => refRight10_w L false (by omega) (fun e he => (hall e he).1) (fun e he => by have := (hall e he).2; omega)⟩
    clear hm hL hik hall o2'
    refine aws_says (says_frz (t := 6) (o := 901) rfl rfl rfl (by rw [List.length_map])) ?_
    generalize keysF L = B at hR ⊢
    by_cases hz : endS q = 0
    · have d4 : decide (endS q ≠ 0) = false := decide_eq_false fun h => h hz
      cases B with
      | true =>
        have d5 : (!true) = false := rfl
        rw [if_neg (show ¬ (endS q ≠ 0 ∨ true = false) from fun h => h.elim (fun h => h hz) (fun h => by cases h))]
        rcases hex with d1 | ⟨d1, d2⟩
        all_goals
          as_aux_lemma =>
            repeat' (first | refine rnC ?_ | refine rnSB ?_ | refine rnG ?_ | refine rnU ?_ | ((fail_if_success (refine rnKn ?_)); refine rnP ?_ ?_ <;> (intro hq; try (have hq' := hq; simp only [hqs] at hq'))) | refine rkC ?_ | refine rkSB ?_ | refine rkF ?_ | refine rkU ?_ | ((fail_if_success (refine rkKn ?_)); refine rkP ?_ ?_ <;> (intro hq; try (have hq' := hq; simp only [hqs] at hq'))) | refine stp ?_ | refine ifT ?_ | refine ifF ?_ | (refine ifQ ?_ ?_ <;> (try (intro hn))) | (refine ifB ?_ ?_ <;> (intro hq; try (have hq' := hq; simp only [hqs] at hq'))))
            exact rt2 rfl rfl finS_p rfl finS_p rfl
      | false =>
        have d5 : (!false) = true := rfl
        rw [if_pos (show (endS q ≠ 0 ∨ false = false) from .inr rfl)]
        rcases hex with d1 | ⟨d1, d2⟩
        all_goals
          as_aux_lemma =>
            repeat' (first | refine rnC ?_ | refine rnSB ?_ | refine rnG ?_ | refine rnU ?_ | ((fail_if_success (refine rnKn ?_)); refine rnP ?_ ?_ <;> (intro hq; try (have hq' := hq; simp only [hqs] at hq'))) | refine rkC ?_ | refine rkSB ?_ | refine rkF ?_ | refine rkU ?_ | ((fail_if_success (refine rkKn ?_)); refine rkP ?_ ?_ <;> (intro hq; try (have hq' := hq; simp only [hqs] at hq'))) | refine stp ?_ | refine ifT ?_ | refine ifF ?_ | (refine ifQ ?_ ?_ <;> (try (intro hn))) | (refine ifB ?_ ?_ <;> (intro hq; try (have hq' := hq; simp only [hqs] at hq'))))
            exact rt2 rfl rfl (.one .nil) rfl finS_p rfl
    · have d4 : decide (endS q ≠ 0) = true := decide_eq_true hz
      rw [if_pos (show (endS q ≠ 0 ∨ B = false) from .inl hz)]
      rcases hex with d1 | ⟨d1, d2⟩
      all_goals
        as_aux_lemma =>
          repeat' (first | refine rnC ?_ | refine rnSB ?_ | refine rnG ?_ | refine rnU ?_ | ((fail_if_success (refine rnKn ?_)); refine rnP ?_ ?_ <;> (intro hq; try (have hq' := hq; simp only [hqs] at hq'))) | refine rkC ?_ | refine rkSB ?_ | refine rkF ?_ | refine rkU ?_ | ((fail_if_success (refine rkKn ?_)); refine rkP ?_ ?_ <;> (intro hq; try (have hq' := hq; simp only [hqs] at hq'))) | refine stp ?_ | refine ifT ?_ | refine ifF ?_ | (refine ifQ ?_ ?_ <;> (try (intro hn))) | (refine ifB ?_ ?_ <;> (intro hq; try (have hq' := hq; simp only [hqs] at hq'))))
          exact rt2 rfl rfl (.one .nil) rfl finS_p rfl
end Go.Proofs.YtlaeldgebecppaaGreat.Wi
namespace Go.Proofs.YtlaeldgebecppaaGreat.Wi
open Go Go.RowKit Go.Aw Go.Aw.Cart Go.Proofs.YtlaeldgebecppaaGreat.Ca
set_option linter.unusedVariables false
set_option linter.unusedSimpArgs false
set_option maxRecDepth 8000
set_option maxHeartbeats 4000000
open W9
theorem asK_w (l : List Kd) (ex : Bool) (hl : l.length ≤ 100000) (hin : ∀ k ∈ l, KdI k) (hf : ∀ k ∈ l, k.2.2.length ≤ 1000000) : PCall Tryz.prog 13 [.p (.sl 10 (l.map kR) ex)] (.p (.sl 10 (l.map kR) false)) := by
  refine pcall_of Tryz.func13 rfl (fun w0 F S0 M0 => ?_)
  repeat' (first | refine rnC ?_ | refine rnSB ?_ | refine rnG ?_ | refine rnU ?_ | ((fail_if_success (refine rnKn ?_)); refine rnP ?_ ?_ <;> (intro hq; try (have hq' := hq; simp only [hqs] at hq'))) | refine rkC ?_ | refine rkSB ?_ | refine rkF ?_ | refine rkU ?_ | ((fail_if_success (refine rkKn ?_)); refine rkP ?_ ?_ <;> (intro hq; try (have hq' := hq; simp only [hqs] at hq'))) | refine stp ?_ | refine ifT ?_ | refine ifF ?_ | (refine ifQ ?_ ?_ <;> (try (intro hn))) | (refine ifB ?_ ?_ <;> (intro hq; try (have hq' := hq; simp only [hqs] at hq'))))
  refine aws_says (says_nil (t := 3) (o := 901) (ty := 114) (es := 10) rfl rfl (by decide)) ?_
  refine aws_loopS [3, 4, 5, 6, 7, 8, 9, 10, 11, 12, 13, 14, 15, 16, 17, 18, 19, 20, 21, 22, 23, 24, 25] [901] (fun (x : Nat × List Kd) => [(4, .p (.i x.1)), (3, .o (.osl 901 x.1 10 0 x.2.length))]) (fun x => [(901, (x.1 + 1, some (.buf 114 10 (x.2.map kR))))])
    (fun x => x.1 ≤ l.length ∧ x.2 = l.take x.1) (fun x => l.length - x.1) (0, []) ⟨Nat.zero_le _, rfl⟩ (by exact knA) (by exact knA) ?_
  rintro ⟨i, m⟩ β γ ⟨hi, hm⟩
  dsimp only at hi hm ⊢
  have hml : m.length = i := by rw [hm, List.length_take]; omega
  by_cases hil : i < l.length
  · have hd : decide ((i : Int) < (l.length : Int)) = true := decide_eq_true (by omega)
    have ei : (i : Int).toNat = i := Int.toNat_natCast i
    have hk : l.getD (i : Int).toNat default ∈ l := by rw [ei, getD_at hil]; exact List.getElem_mem _
    have ca := Cr.as_r (l.getD (i : Int).toNat default).2.1 (l.getD (i : Int).toNat default).2.2 false (hf _ hk)
    haveI : PC Tryz.prog 60 [cV (l.getD (i : Int).toNat default).2.1 (l.getD (i : Int).toNat default).2.2 false] True (cV (l.getD (i : Int).toNat default).2.1 (l.getD (i : Int).toNat default).2.2 false) := ⟨fun _ => ca⟩
    have hn : m ++ [l.getD (i : Int).toNat default] = l.take (i + 1) := by rw [hm, take_get' hil, ei]
    clear ca hk hf hin hm
    repeat' (first | refine rnC ?_ | refine rnSB ?_ | refine rnG ?_ | refine rnU ?_ | ((fail_if_success (refine rnKn ?_)); refine rnP ?_ ?_ <;> (intro hq; try (have hq' := hq; simp only [hqs] at hq'))) | refine rkC ?_ | refine rkSB ?_ | refine rkF ?_ | refine rkU ?_ | ((fail_if_success (refine rkKn ?_)); refine rkP ?_ ?_ <;> (intro hq; try (have hq' := hq; simp only [hqs] at hq'))) | refine stp ?_ | refine ifT ?_ | refine ifF ?_ | (refine ifQ ?_ ?_ <;> (try (intro hn))) | (refine ifB ?_ ?_ <;> (intro hq; try (have hq' := hq; simp only [hqs] at hq'))))
    refine aws_draws [(14, 901)] mixed (by kernel_rfl) ?_
    repeat' (first | refine rk_nil ?_ | refine rkC ?_ | refine rkSB ?_ | refine rkF ?_ | refine rkU ?_ | ((fail_if_success (refine rkKn ?_)); refine rkP ?_ ?_ <;> (intro hq; try (have hq' := hq; simp only [hqs] at hq'))))
    as_aux_lemma =>
      repeat' (first | refine rnC ?_ | refine rnSB ?_ | refine rnG ?_ | refine rnU ?_ | ((fail_if_success (refine rnKn ?_)); refine rnP ?_ ?_ <;> (intro hq; try (have hq' := hq; simp only [hqs] at hq'))) | refine rkC ?_ | refine rkSB ?_ | refine rkF ?_ | refine rkU ?_ | ((fail_if_success (refine rkKn ?_)); refine rkP ?_ ?_ <;> (intro hq; try (have hq' := hq; simp only [hqs] at hq'))) | refine stp ?_ | refine ifT ?_ | refine ifF ?_ | (refine ifQ ?_ ?_ <;> (try (intro hn))) | (refine ifB ?_ ?_ <;> (intro hq; try (have hq' := hq; simp only [hqs] at hq'))))
      exact ⟨(i + 1, m ++ [l.getD (i : Int).toNat default]), _, by dsimp only; omega, ⟨by dsimp only; omega, hn⟩, .refl, by exact frA⟩
  · have hd : decide ((i : Int) < (l.length : Int)) = false := decide_eq_false (by omega)
    have hm' : l = m := by rw [hm, List.take_of_length_le (by omega)]
    rw [hm']
    rw [hm'] at hd
    clear hm' hm
    as_aux_lemma =>
      repeat' (first | refine rnC ?_ | refine rnSB ?_ | refine rnG ?_ | refine rnU ?_ | ((fail_if_success (refine rnKn ?_)); refine rnP ?_ ?_ <;> (intro hq; try (have hq' := hq; simp only [hqs] at hq'))) | refine rkC ?_ | refine rkSB ?_ | refine rkF ?_ | refine rkU ?_ | ((fail_if_success (refine rkKn ?_)); refine rkP ?_ ?_ <;> (intro hq; try (have hq' := hq; simp only [hqs] at hq'))) | refine stp ?_ | refine ifT ?_ | refine ifF ?_ | (refine ifQ ?_ ?_ <;> (try (intro hn))) | (refine ifB ?_ ?_ <;> (intro hq; try (have hq' := hq; simp only [hqs] at hq'))))
      exact rt1 rfl rfl (.one (finC_map rfl rfl rfl rfl)) rfl
end Go.Proofs.YtlaeldgebecppaaGreat.Wi
namespace Go.Proofs.YtlaeldgebecppaaGreat.Wi
open Go Go.RowKit Go.Aw Go.Aw.Cart Go.Proofs.YtlaeldgebecppaaGreat.Ca
set_option linter.unusedVariables false
set_option linter.unusedSimpArgs false
set_option maxRecDepth 8000
set_option maxHeartbeats 4000000
namespace PW9
theorem lopC {C : Ctx} {o : Oper} {σ : St} {e : Eff} {ro : Nat → Bool} (h : LOp C o σ e ro := by
    first | (apply gBin; (focus rfl); apply lop_nes; (focus rfl); (focus exact inferInstance); (focus rfl); (focus rfl); (focus assumption); (focus assumption); (focus rfl)) | exact W9.lopC | fail) : LOp C o σ e ro := h
section steps
variable {C : Ctx} {ops : Array Oper} {o : Oper} {rest : List Oper} {K : St → Prop} {σ : St} {e : Eff} {ro : Nat → Bool} {W : List (Nat × Nat)} {i : Nat}
theorem rnC {d : Nat} (hk : RunN C ops rest K (e.app (some d) σ)) (hg : Guard ops σ o true := by first | exact gd_n rfl rfl | exact gd_t rfl rfl rfl rfl | exact gd_t rfl rfl rfl (by assumption)) (hd : o.dst = some d := by rfl) (h : LOp C o σ e ro := by exact lopC) : RunN C ops (o :: rest) K σ := rn_any hg hd h hk
theorem rkC {d : Nat} (hk : RunK C ops W (i + 1) rest K (e.app (some d) σ)) (hg : Guard ops σ o true := by first | exact gd_n rfl rfl | exact gd_t rfl rfl rfl rfl | exact gd_t rfl rfl rfl (by assumption)) (hd' : o.dst = some d := by rfl) (hd : dOk C o.dst = true := by rfl) (h : LOp C o σ e ro := by exact lopC)
    (hro : ∀ x, ro x = true → okObj ops W i x = true := by first | exact fun _ => ro_none | exact ro_one rfl | exact ro_k1 rfl | exact ro_one (by kernel_rfl) | exact ro_k1 (by kernel_rfl) | exact ro_kIn (by decide)) (hob : ∀ p ∈ e.obj, (i, p.1) ∈ W := by first | exact ob_none | exact ob_one (by decide) | decide) : RunK C ops W i (o :: rest) K σ := rk_wr hg hd' hd h hro hob hk
end steps
end PW9
theorem refSame10_w (l : List Kd) (ex ey : Bool) (hl : l.length ≤ 1000000000) (hin : ∀ k ∈ l, KdI k) (hf : ∀ k ∈ l, k.2.2.length ≤ 1000000000) : PCall Tryz.prog 15 [.p (.sl 10 (l.map kR) ex), .p (.sl 10 (l.map kR) ey)] (.p (.b true)) := by
  refine pcall_of Tryz.func15 rfl (fun w0 F S0 M0 => ?_)
  have d0 : decide ((l.length : Int) ≠ (l.length : Int)) = false := decide_eq_false fun h => h rfl
  open PW9 in
  repeat' (first | refine rnC ?_ | refine rnSB ?_ | refine rnG ?_ | refine rnU ?_ | refine rkC ?_ | refine rkSB ?_ | refine rkF ?_ | refine rkU ?_ | refine stp ?_ | refine ifT ?_ | refine ifF ?_ | fail)
  refine aws_loopS (0 :: 1 :: [4, 5, 11, 12, 13, 14, 15, 16, 17, 18, 19, 20, 21, 22, 23, 24, 25, 26, 27, 28, 29, 30, 31, 32, 33, 34, 35, 36, 37, 38, 39, 40, 41]) [] (fun (x : Nat) => [(5, .p (.i x)), (0, .p (.sl 10 (l.map kR) ex)), (1, .p (.sl 10 (l.map kR) ey))]) (fun x => []) (fun x => x ≤ l.length) (fun x => l.length - x) 0 (Nat.zero_le _) (by exact knA) (by exact knA) ?_
  rintro i β γ hi
  by_cases hil : i < l.length
  · have d1 : decide ((i : Int) < (l.length : Int)) = true := decide_eq_true (by omega)
    have hm : l.getD (i : Int).toNat default ∈ l := by rw [Int.toNat_natCast, getD_at hil]; exact List.getElem_mem _
    have hk := hin _ hm
    have okx := hk.key
    have c1 := Cr.same_r (l.getD (i : Int).toNat default).2.1 (l.getD (i : Int).toNat default).2.1 (l.getD (i : Int).toNat default).2.2 (l.getD (i : Int).toNat default).2.2 false false hk.vec.1 hk.vec.1 (hf _ hm)
    rw [show ∀ (v : List Int) (l : List Ent), sameF v v l l = true by intro v l; simp [sameF]] at c1
    haveI : PC Tryz.prog 62 [cV (l.getD (i : Int).toNat default).2.1 (l.getD (i : Int).toNat default).2.2 false, cV (l.getD (i : Int).toNat default).2.1 (l.getD (i : Int).toNat default).2.2 false] True (.p (.b true)) := ⟨fun _ => c1⟩
    have d2 : (!decide ((l.getD (i : Int).toNat default).1 = (l.getD (i : Int).toNat default).1)) = false := by rw [decide_eq_true rfl]; rfl
    clear c1 hk hm hin hf
    open PW9 in
    as_aux_lemma =>
      repeat' (first | refine rnC ?_ | refine rnSB ?_ | refine rnG ?_ | refine rnU ?_ | refine rkC ?_ | refine rkSB ?_ | refine rkF ?_ | refine rkU ?_ | refine stp ?_ | refine aws_draws [] mixed (by kernel_rfl) ?_ | refine ifT ?_ | refine ifF ?_ | fail)
      exact ⟨i + 1, _, by omega, by omega, .refl, by exact frA⟩
  · have d1 : decide ((i : Int) < (l.length : Int)) = false := decide_eq_false (by omega)
    open PW9 in
    as_aux_lemma =>
      repeat' (first | refine rnC ?_ | refine rnSB ?_ | refine rnG ?_ | refine rnU ?_ | refine rkC ?_ | refine rkSB ?_ | refine rkF ?_ | refine rkU ?_ | refine stp ?_ | refine ifT ?_ | refine ifF ?_ | fail)
      exact rt1 rfl rfl finS_p rfl
end Go.Proofs.YtlaeldgebecppaaGreat.Wi
