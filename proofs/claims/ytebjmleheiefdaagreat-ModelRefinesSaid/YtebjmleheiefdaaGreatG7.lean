/- the model, the laws: ModelRefines: joins, at 0; the model, the laws: ModelRefines: an op, at 0 -/
import Derived.Test.YtebjmleheiefdaaGreatG6
namespace Go.Proofs.YtebjmleheiefdaaGreat.Ca
open Go Go.RowKit Go.Aw Go.Aw.Cart Go.Aw.Ord Go.Sort
set_option linter.unusedVariables false
set_option linter.unusedSimpArgs false
set_option maxRecDepth 8000
set_option maxHeartbeats 8000000
open N2
theorem j00 (w0 : World) (F S0 : Nat → Prop) (M0 : Mu) (l : List Stp) (ex : Bool) (cf : List Evt → Crt) (i : Nat) (k0 k1 k2 : List Evt) (g8 : Nat) (m8 : Option MO) (g10 : Nat) (m10 : Option MO) (g11 : Nat) (m11 : Option MO) (g13 : Nat) (m13 : Option MO) (g87 : Nat) (m87 : Option MO) (β : Nat → AV) (γ : Nat → Nat × Option MO)
    (hl : l.length ≤ maxLen) (hb : ∀ s ∈ l, 0 ≤ s.2.1 ∧ s.2.1 < 256 ∧ 0 ≤ s.2.2.1 ∧ s.2.2.1 < 256) (hcf : ∀ k, cf k = crt k) (hi4 : i ≤ 40) (hinv : Inv3 i k0 k1 k2) (hil : i < l.length) (hil4 : i < 40)
    (har : (l.getD (i : Int).toNat default).2.1 % 3 = 0) (hj : (l.getD (i : Int).toNat default).1 = true) (hfr : (l.getD (i : Int).toNat default).2.2.1 % 3 = 0) (hs1 : 0 ≤ (l.getD (i : Int).toNat default).2.1) (hs2 : 0 ≤ (l.getD (i : Int).toNat default).2.2.1) : R9.1 w0 F S0 M0 l ex cf i k0 k1 k2 g8 m8 g10 m10 g11 m11 g13 m13 g87 m87 β γ := by
  refine (?_ : AWs _ _ _ _)
  have hl9 : l.length ≤ 9223372036854775807 := by simpa [maxLen] using hl
  have d1 : decide ((i : Int) < (l.length : Int)) = true := decide_eq_true (by omega)
  have d2 : decide ((i : Int) < 40) = true := decide_eq_true (by omega)
  obtain ⟨E, hE, uq, r0, r1, r2⟩ := hinv
  have hE4 : E.length ≤ 40 := by omega
  have ei : (i : Int).toNat = i := Int.toNat_natCast i
  have hf : (l.getD (i : Int).toNat default).2.2.1 % 3 = 0 := hfr
  obtain ⟨ru, jt⟩ := Rp.join uq hE4 r0 r0
  simp only [← hcf] at jt
  have tw := two_w (cf k0).1 (cf k0).1 (cf k0).2 (cf k0).2 false false (by rw [hcf]; exact crt_len8 _) (by rw [hcf]; exact crt_len8 _) (fun n hn => by rw [hcf] at hn; exact (r0.bnd (by omega) n hn).1) (by rw [hcf]; have := crt_few k0; have := r0.len; omega) (by rw [hcf]; have := crt_few k0; have := r0.len; omega)
  rw [show twoF ((cf k0).1, (cf k0).2) ((cf k0).1, (cf k0).2) = twoF (cf k0) (cf k0) from rfl, jt] at tw
  obtain ⟨u, hu⟩ : ∃ u, u = mUnion k0 k0 := ⟨_, rfl⟩
  rw [← hu] at ru tw
  have cu := union_w k0 k0 false false (by have := r0.len; omega) (by have := r0.len; omega) (fun x hx => Nat.le_trans ((List.mem_append.1 hx).elim (r0.offs x) (r0.offs x)) (by decide))
  rw [← hu] at cu
  have cc := mCart_w u false (by have := ru.len; omega) (fun x hx => Nat.le_trans (ru.offs x hx) (by decide)) ru.bd
  rw [ru.cart (by omega), ← hcf] at cc
  have cs := same_w (cf u).1 (cf u).1 (cf u).2 (cf u).2 false false (by rw [hcf]; exact crt_len8 _) (by rw [hcf]; exact crt_len8 _) (by rw [hcf]; have := crt_few u; have := ru.len; omega)
  rw [show sameF (cf u).1 (cf u).1 (cf u).2 (cf u).2 = true by simp [sameF]] at cs
  haveI : PC Tryz.prog 31 [cV (cf k0).1 (cf k0).2 false, cV (cf k0).1 (cf k0).2 false] True (.tup [.agg (cL (cf u).1 (cf u).2 false), .one (.p (.i 0))]) := ⟨fun _ => tw⟩
  haveI : PC Tryz.prog 32 [.p (.sl 6 ((k0).map xR) false), .p (.sl 6 ((k0).map xR) false)] True (.p (.sl 6 ((u).map xR) false)) := ⟨fun _ => cu⟩
  haveI : PC Tryz.prog 34 [.p (.sl 6 ((u).map xR) false)] True (.tup [.agg (cL (cf u).1 (cf u).2 false), .one (.p (.i 0))]) := ⟨fun _ => cc⟩
  haveI : PC Tryz.prog 35 [cV (cf u).1 (cf u).2 false, cV (cf u).1 (cf u).2 false] True (.p (.b true)) := ⟨fun _ => cs⟩
  clear tw cu cc cs jt
  repeat' (first | refine rnC ?_ | refine rnSE ?_ | refine rnG ?_ | refine rnU ?_ | refine rkC ?_ | refine rkSE ?_ | refine rkF ?_ | refine rkU ?_ | refine stp ?_ | refine ifT ?_ | refine ifF ?_ | fail)
  refine aws_draws [] mixed (by kernel_rfl) ?_
  repeat' (first | refine rk_nil ?_ | refine rkC ?_ | refine rkSE ?_ | refine rkF ?_ | refine rkU ?_ | ((fail_if_success (refine rkKn ?_)); refine rkP ?_ ?_ <;> (intro hq; try (have hq' := hq; simp only [hqs] at hq'))))
  repeat' (first | refine rnC ?_ | refine rnSE ?_ | refine rnG ?_ | refine rnU ?_ | refine rkC ?_ | refine rkSE ?_ | refine rkF ?_ | refine rkU ?_ | refine stp ?_ | refine ifT ?_ | refine ifF ?_ | fail)
  refine aws_draws [(10, 8), (11, 8)] mixed (by kernel_rfl) ?_
  repeat' (first | refine rk_nil ?_ | refine rkC ?_ | refine rkSE ?_ | refine rkF ?_ | refine rkU ?_ | ((fail_if_success (refine rkKn ?_)); refine rkP ?_ ?_ <;> (intro hq; try (have hq' := hq; simp only [hqs] at hq'))))
  repeat' (first | refine rnC ?_ | refine rnSE ?_ | refine rnG ?_ | refine rnU ?_ | refine rkC ?_ | refine rkSE ?_ | refine rkF ?_ | refine rkU ?_ | refine stp ?_ | refine ifT ?_ | refine ifF ?_ | fail)
  refine aws_draws [(11, 3), (13, 4)] mixed (by kernel_rfl) ?_
  repeat' (first | refine rk_nil ?_ | refine rkC ?_ | refine rkSE ?_ | refine rkF ?_ | refine rkU ?_ | ((fail_if_success (refine rkKn ?_)); refine rkP ?_ ?_ <;> (intro hq; try (have hq' := hq; simp only [hqs] at hq'))))
  as_aux_lemma =>
    repeat' (first | refine rnC ?_ | refine rnSE ?_ | refine rnG ?_ | refine rnU ?_ | ((fail_if_success (refine rnKn ?_)); refine rnP ?_ ?_ <;> (intro hq; try (have hq' := hq; simp only [hqs] at hq'))) | refine rkC ?_ | refine rkSE ?_ | refine rkF ?_ | refine rkU ?_ | ((fail_if_success (refine rkKn ?_)); refine rkP ?_ ?_ <;> (intro hq; try (have hq' := hq; simp only [hqs] at hq'))) | refine stp ?_ | refine aws_draws [] mixed (by kernel_rfl) ?_ | refine ifT ?_ | refine ifF ?_ | (refine ifQ ?_ ?_ <;> (try (intro hn))) | (refine ifB ?_ ?_ <;> (intro hq; try (have hq' := hq; simp only [hqs] at hq'))))
    exact ⟨(i + 1, (u, k1, k2), (_, _), (_, _), (_, _), (_, _), (_, _)), _, by dsimp only; omega, ⟨by dsimp only; omega, by dsimp only; omega, E, by dsimp only; omega, uq, ru, r1, r2⟩, .refl, by exact frA⟩
theorem j01 (w0 : World) (F S0 : Nat → Prop) (M0 : Mu) (l : List Stp) (ex : Bool) (cf : List Evt → Crt) (i : Nat) (k0 k1 k2 : List Evt) (g8 : Nat) (m8 : Option MO) (g10 : Nat) (m10 : Option MO) (g11 : Nat) (m11 : Option MO) (g13 : Nat) (m13 : Option MO) (g87 : Nat) (m87 : Option MO) (β : Nat → AV) (γ : Nat → Nat × Option MO)
    (hl : l.length ≤ maxLen) (hb : ∀ s ∈ l, 0 ≤ s.2.1 ∧ s.2.1 < 256 ∧ 0 ≤ s.2.2.1 ∧ s.2.2.1 < 256) (hcf : ∀ k, cf k = crt k) (hi4 : i ≤ 40) (hinv : Inv3 i k0 k1 k2) (hil : i < l.length) (hil4 : i < 40)
    (har : (l.getD (i : Int).toNat default).2.1 % 3 = 0) (hj : (l.getD (i : Int).toNat default).1 = true) (hfr : (l.getD (i : Int).toNat default).2.2.1 % 3 = 1) (hs1 : 0 ≤ (l.getD (i : Int).toNat default).2.1) (hs2 : 0 ≤ (l.getD (i : Int).toNat default).2.2.1) : R9.1 w0 F S0 M0 l ex cf i k0 k1 k2 g8 m8 g10 m10 g11 m11 g13 m13 g87 m87 β γ := by
  refine (?_ : AWs _ _ _ _)
  have hl9 : l.length ≤ 9223372036854775807 := by simpa [maxLen] using hl
  have d1 : decide ((i : Int) < (l.length : Int)) = true := decide_eq_true (by omega)
  have d2 : decide ((i : Int) < 40) = true := decide_eq_true (by omega)
  obtain ⟨E, hE, uq, r0, r1, r2⟩ := hinv
  have hE4 : E.length ≤ 40 := by omega
  have ei : (i : Int).toNat = i := Int.toNat_natCast i
  have hf : (l.getD (i : Int).toNat default).2.2.1 % 3 = 1 := hfr
  obtain ⟨ru, jt⟩ := Rp.join uq hE4 r0 r1
  simp only [← hcf] at jt
  have tw := two_w (cf k0).1 (cf k1).1 (cf k0).2 (cf k1).2 false false (by rw [hcf]; exact crt_len8 _) (by rw [hcf]; exact crt_len8 _) (fun n hn => by rw [hcf] at hn; exact (r0.bnd (by omega) n hn).1) (by rw [hcf]; have := crt_few k0; have := r0.len; omega) (by rw [hcf]; have := crt_few k1; have := r1.len; omega)
  rw [show twoF ((cf k0).1, (cf k0).2) ((cf k1).1, (cf k1).2) = twoF (cf k0) (cf k1) from rfl, jt] at tw
  obtain ⟨u, hu⟩ : ∃ u, u = mUnion k0 k1 := ⟨_, rfl⟩
  rw [← hu] at ru tw
  have cu := union_w k0 k1 false false (by have := r0.len; omega) (by have := r1.len; omega) (fun x hx => Nat.le_trans ((List.mem_append.1 hx).elim (r0.offs x) (r1.offs x)) (by decide))
  rw [← hu] at cu
  have cc := mCart_w u false (by have := ru.len; omega) (fun x hx => Nat.le_trans (ru.offs x hx) (by decide)) ru.bd
  rw [ru.cart (by omega), ← hcf] at cc
  have cs := same_w (cf u).1 (cf u).1 (cf u).2 (cf u).2 false false (by rw [hcf]; exact crt_len8 _) (by rw [hcf]; exact crt_len8 _) (by rw [hcf]; have := crt_few u; have := ru.len; omega)
  rw [show sameF (cf u).1 (cf u).1 (cf u).2 (cf u).2 = true by simp [sameF]] at cs
  haveI : PC Tryz.prog 31 [cV (cf k0).1 (cf k0).2 false, cV (cf k1).1 (cf k1).2 false] True (.tup [.agg (cL (cf u).1 (cf u).2 false), .one (.p (.i 0))]) := ⟨fun _ => tw⟩
  haveI : PC Tryz.prog 32 [.p (.sl 6 ((k0).map xR) false), .p (.sl 6 ((k1).map xR) false)] True (.p (.sl 6 ((u).map xR) false)) := ⟨fun _ => cu⟩
  haveI : PC Tryz.prog 34 [.p (.sl 6 ((u).map xR) false)] True (.tup [.agg (cL (cf u).1 (cf u).2 false), .one (.p (.i 0))]) := ⟨fun _ => cc⟩
  haveI : PC Tryz.prog 35 [cV (cf u).1 (cf u).2 false, cV (cf u).1 (cf u).2 false] True (.p (.b true)) := ⟨fun _ => cs⟩
  clear tw cu cc cs jt
  repeat' (first | refine rnC ?_ | refine rnSE ?_ | refine rnG ?_ | refine rnU ?_ | refine rkC ?_ | refine rkSE ?_ | refine rkF ?_ | refine rkU ?_ | refine stp ?_ | refine ifT ?_ | refine ifF ?_ | fail)
  refine aws_draws [] mixed (by kernel_rfl) ?_
  repeat' (first | refine rk_nil ?_ | refine rkC ?_ | refine rkSE ?_ | refine rkF ?_ | refine rkU ?_ | ((fail_if_success (refine rkKn ?_)); refine rkP ?_ ?_ <;> (intro hq; try (have hq' := hq; simp only [hqs] at hq'))))
  repeat' (first | refine rnC ?_ | refine rnSE ?_ | refine rnG ?_ | refine rnU ?_ | refine rkC ?_ | refine rkSE ?_ | refine rkF ?_ | refine rkU ?_ | refine stp ?_ | refine ifT ?_ | refine ifF ?_ | fail)
  refine aws_draws [(10, 8), (11, 8)] mixed (by kernel_rfl) ?_
  repeat' (first | refine rk_nil ?_ | refine rkC ?_ | refine rkSE ?_ | refine rkF ?_ | refine rkU ?_ | ((fail_if_success (refine rkKn ?_)); refine rkP ?_ ?_ <;> (intro hq; try (have hq' := hq; simp only [hqs] at hq'))))
  repeat' (first | refine rnC ?_ | refine rnSE ?_ | refine rnG ?_ | refine rnU ?_ | refine rkC ?_ | refine rkSE ?_ | refine rkF ?_ | refine rkU ?_ | refine stp ?_ | refine ifT ?_ | refine ifF ?_ | fail)
  refine aws_draws [(11, 3), (13, 4)] mixed (by kernel_rfl) ?_
  repeat' (first | refine rk_nil ?_ | refine rkC ?_ | refine rkSE ?_ | refine rkF ?_ | refine rkU ?_ | ((fail_if_success (refine rkKn ?_)); refine rkP ?_ ?_ <;> (intro hq; try (have hq' := hq; simp only [hqs] at hq'))))
  as_aux_lemma =>
    repeat' (first | refine rnC ?_ | refine rnSE ?_ | refine rnG ?_ | refine rnU ?_ | ((fail_if_success (refine rnKn ?_)); refine rnP ?_ ?_ <;> (intro hq; try (have hq' := hq; simp only [hqs] at hq'))) | refine rkC ?_ | refine rkSE ?_ | refine rkF ?_ | refine rkU ?_ | ((fail_if_success (refine rkKn ?_)); refine rkP ?_ ?_ <;> (intro hq; try (have hq' := hq; simp only [hqs] at hq'))) | refine stp ?_ | refine aws_draws [] mixed (by kernel_rfl) ?_ | refine ifT ?_ | refine ifF ?_ | (refine ifQ ?_ ?_ <;> (try (intro hn))) | (refine ifB ?_ ?_ <;> (intro hq; try (have hq' := hq; simp only [hqs] at hq'))))
    exact ⟨(i + 1, (u, k1, k2), (_, _), (_, _), (_, _), (_, _), (_, _)), _, by dsimp only; omega, ⟨by dsimp only; omega, by dsimp only; omega, E, by dsimp only; omega, uq, ru, r1, r2⟩, .refl, by exact frA⟩
theorem j02 (w0 : World) (F S0 : Nat → Prop) (M0 : Mu) (l : List Stp) (ex : Bool) (cf : List Evt → Crt) (i : Nat) (k0 k1 k2 : List Evt) (g8 : Nat) (m8 : Option MO) (g10 : Nat) (m10 : Option MO) (g11 : Nat) (m11 : Option MO) (g13 : Nat) (m13 : Option MO) (g87 : Nat) (m87 : Option MO) (β : Nat → AV) (γ : Nat → Nat × Option MO)
    (hl : l.length ≤ maxLen) (hb : ∀ s ∈ l, 0 ≤ s.2.1 ∧ s.2.1 < 256 ∧ 0 ≤ s.2.2.1 ∧ s.2.2.1 < 256) (hcf : ∀ k, cf k = crt k) (hi4 : i ≤ 40) (hinv : Inv3 i k0 k1 k2) (hil : i < l.length) (hil4 : i < 40)
    (har : (l.getD (i : Int).toNat default).2.1 % 3 = 0) (hj : (l.getD (i : Int).toNat default).1 = true) (hfr : (l.getD (i : Int).toNat default).2.2.1 % 3 = 2) (hs1 : 0 ≤ (l.getD (i : Int).toNat default).2.1) (hs2 : 0 ≤ (l.getD (i : Int).toNat default).2.2.1) : R9.1 w0 F S0 M0 l ex cf i k0 k1 k2 g8 m8 g10 m10 g11 m11 g13 m13 g87 m87 β γ := by
  refine (?_ : AWs _ _ _ _)
  have hl9 : l.length ≤ 9223372036854775807 := by simpa [maxLen] using hl
  have d1 : decide ((i : Int) < (l.length : Int)) = true := decide_eq_true (by omega)
  have d2 : decide ((i : Int) < 40) = true := decide_eq_true (by omega)
  obtain ⟨E, hE, uq, r0, r1, r2⟩ := hinv
  have hE4 : E.length ≤ 40 := by omega
  have ei : (i : Int).toNat = i := Int.toNat_natCast i
  have hf : (l.getD (i : Int).toNat default).2.2.1 % 3 = 2 := hfr
  obtain ⟨ru, jt⟩ := Rp.join uq hE4 r0 r2
  simp only [← hcf] at jt
  have tw := two_w (cf k0).1 (cf k2).1 (cf k0).2 (cf k2).2 false false (by rw [hcf]; exact crt_len8 _) (by rw [hcf]; exact crt_len8 _) (fun n hn => by rw [hcf] at hn; exact (r0.bnd (by omega) n hn).1) (by rw [hcf]; have := crt_few k0; have := r0.len; omega) (by rw [hcf]; have := crt_few k2; have := r2.len; omega)
  rw [show twoF ((cf k0).1, (cf k0).2) ((cf k2).1, (cf k2).2) = twoF (cf k0) (cf k2) from rfl, jt] at tw
  obtain ⟨u, hu⟩ : ∃ u, u = mUnion k0 k2 := ⟨_, rfl⟩
  rw [← hu] at ru tw
  have cu := union_w k0 k2 false false (by have := r0.len; omega) (by have := r2.len; omega) (fun x hx => Nat.le_trans ((List.mem_append.1 hx).elim (r0.offs x) (r2.offs x)) (by decide))
  rw [← hu] at cu
  have cc := mCart_w u false (by have := ru.len; omega) (fun x hx => Nat.le_trans (ru.offs x hx) (by decide)) ru.bd
  rw [ru.cart (by omega), ← hcf] at cc
  have cs := same_w (cf u).1 (cf u).1 (cf u).2 (cf u).2 false false (by rw [hcf]; exact crt_len8 _) (by rw [hcf]; exact crt_len8 _) (by rw [hcf]; have := crt_few u; have := ru.len; omega)
  rw [show sameF (cf u).1 (cf u).1 (cf u).2 (cf u).2 = true by simp [sameF]] at cs
  haveI : PC Tryz.prog 31 [cV (cf k0).1 (cf k0).2 false, cV (cf k2).1 (cf k2).2 false] True (.tup [.agg (cL (cf u).1 (cf u).2 false), .one (.p (.i 0))]) := ⟨fun _ => tw⟩
  haveI : PC Tryz.prog 32 [.p (.sl 6 ((k0).map xR) false), .p (.sl 6 ((k2).map xR) false)] True (.p (.sl 6 ((u).map xR) false)) := ⟨fun _ => cu⟩
  haveI : PC Tryz.prog 34 [.p (.sl 6 ((u).map xR) false)] True (.tup [.agg (cL (cf u).1 (cf u).2 false), .one (.p (.i 0))]) := ⟨fun _ => cc⟩
  haveI : PC Tryz.prog 35 [cV (cf u).1 (cf u).2 false, cV (cf u).1 (cf u).2 false] True (.p (.b true)) := ⟨fun _ => cs⟩
  clear tw cu cc cs jt
  repeat' (first | refine rnC ?_ | refine rnSE ?_ | refine rnG ?_ | refine rnU ?_ | refine rkC ?_ | refine rkSE ?_ | refine rkF ?_ | refine rkU ?_ | refine stp ?_ | refine ifT ?_ | refine ifF ?_ | fail)
  refine aws_draws [] mixed (by kernel_rfl) ?_
  repeat' (first | refine rk_nil ?_ | refine rkC ?_ | refine rkSE ?_ | refine rkF ?_ | refine rkU ?_ | ((fail_if_success (refine rkKn ?_)); refine rkP ?_ ?_ <;> (intro hq; try (have hq' := hq; simp only [hqs] at hq'))))
  repeat' (first | refine rnC ?_ | refine rnSE ?_ | refine rnG ?_ | refine rnU ?_ | refine rkC ?_ | refine rkSE ?_ | refine rkF ?_ | refine rkU ?_ | refine stp ?_ | refine ifT ?_ | refine ifF ?_ | fail)
  refine aws_draws [(10, 8), (11, 8)] mixed (by kernel_rfl) ?_
  repeat' (first | refine rk_nil ?_ | refine rkC ?_ | refine rkSE ?_ | refine rkF ?_ | refine rkU ?_ | ((fail_if_success (refine rkKn ?_)); refine rkP ?_ ?_ <;> (intro hq; try (have hq' := hq; simp only [hqs] at hq'))))
  repeat' (first | refine rnC ?_ | refine rnSE ?_ | refine rnG ?_ | refine rnU ?_ | refine rkC ?_ | refine rkSE ?_ | refine rkF ?_ | refine rkU ?_ | refine stp ?_ | refine ifT ?_ | refine ifF ?_ | fail)
  refine aws_draws [(11, 3), (13, 4)] mixed (by kernel_rfl) ?_
  repeat' (first | refine rk_nil ?_ | refine rkC ?_ | refine rkSE ?_ | refine rkF ?_ | refine rkU ?_ | ((fail_if_success (refine rkKn ?_)); refine rkP ?_ ?_ <;> (intro hq; try (have hq' := hq; simp only [hqs] at hq'))))
  as_aux_lemma =>
    repeat' (first | refine rnC ?_ | refine rnSE ?_ | refine rnG ?_ | refine rnU ?_ | ((fail_if_success (refine rnKn ?_)); refine rnP ?_ ?_ <;> (intro hq; try (have hq' := hq; simp only [hqs] at hq'))) | refine rkC ?_ | refine rkSE ?_ | refine rkF ?_ | refine rkU ?_ | ((fail_if_success (refine rkKn ?_)); refine rkP ?_ ?_ <;> (intro hq; try (have hq' := hq; simp only [hqs] at hq'))) | refine stp ?_ | refine aws_draws [] mixed (by kernel_rfl) ?_ | refine ifT ?_ | refine ifF ?_ | (refine ifQ ?_ ?_ <;> (try (intro hn))) | (refine ifB ?_ ?_ <;> (intro hq; try (have hq' := hq; simp only [hqs] at hq'))))
    exact ⟨(i + 1, (u, k1, k2), (_, _), (_, _), (_, _), (_, _), (_, _)), _, by dsimp only; omega, ⟨by dsimp only; omega, by dsimp only; omega, E, by dsimp only; omega, uq, ru, r1, r2⟩, .refl, by exact frA⟩
end Go.Proofs.YtebjmleheiefdaaGreat.Ca
namespace Go.Proofs.YtebjmleheiefdaaGreat.Ca
open Go Go.RowKit Go.Aw Go.Aw.Cart Go.Aw.Ord Go.Sort
set_option linter.unusedVariables false
set_option linter.unusedSimpArgs false
set_option maxRecDepth 8000
set_option maxHeartbeats 8000000
open N2
theorem d0 (w0 : World) (F S0 : Nat → Prop) (M0 : Mu) (l : List Stp) (ex : Bool) (cf : List Evt → Crt) (i : Nat) (k0 k1 k2 : List Evt) (g8 : Nat) (m8 : Option MO) (g10 : Nat) (m10 : Option MO) (g11 : Nat) (m11 : Option MO) (g13 : Nat) (m13 : Option MO) (g87 : Nat) (m87 : Option MO) (β : Nat → AV) (γ : Nat → Nat × Option MO)
    (hl : l.length ≤ maxLen) (hb : ∀ s ∈ l, 0 ≤ s.2.1 ∧ s.2.1 < 256 ∧ 0 ≤ s.2.2.1 ∧ s.2.2.1 < 256) (hcf : ∀ k, cf k = crt k) (hi4 : i ≤ 40) (hinv : Inv3 i k0 k1 k2) (hil : i < l.length) (hil4 : i < 40)
    (har : (l.getD (i : Int).toNat default).2.1 % 3 = 0) (hj : (l.getD (i : Int).toNat default).1 = false) (hs1 : 0 ≤ (l.getD (i : Int).toNat default).2.1) (hs2 : 0 ≤ (l.getD (i : Int).toNat default).2.2.1) : R9.1 w0 F S0 M0 l ex cf i k0 k1 k2 g8 m8 g10 m10 g11 m11 g13 m13 g87 m87 β γ := by
  refine (?_ : AWs _ _ _ _)
  have hl9 : l.length ≤ 9223372036854775807 := by simpa [maxLen] using hl
  have d1 : decide ((i : Int) < (l.length : Int)) = true := decide_eq_true (by omega)
  have d2 : decide ((i : Int) < 40) = true := decide_eq_true (by omega)
  obtain ⟨E, hE, uq, r0, r1, r2⟩ := hinv
  have hE4 : E.length ≤ 40 := by omega
  have ei : (i : Int).toNat = i := Int.toNat_natCast i
  have dw := do_w (cf k0).1 (cf k0).2 false 1 (l.getD (i : Int).toNat default).2.2.2 (by rw [hcf]; exact crt_len8 _) (by rw [hcf]; exact r0.bnd (by omega)) (by rw [hcf]; have := crt_few k0; have := r0.len; omega)
  rw [show ((cf k0).1, (cf k0).2) = cf k0 from rfl] at dw
  have hop := fun he => Rp.op (o := (l.getD (i : Int).toNat default).2.2.2) uq hE4 r0 he
  rw [← hcf] at hop
  generalize doF (cf k0) 1 (l.getD (i : Int).toNat default).2.2.2 = R at dw hop
  obtain ⟨⟨⟨cw, cl⟩, ⟨y1, y2, y3, ⟨y4, y5⟩, y6⟩⟩, er⟩ := R
  dsimp only at dw hop
  haveI : PC Tryz.prog 33 [cV (cf k0).1 (cf k0).2 false, .p (.i (0 + 1)), .a [.p (.i (l.getD (i : Int).toNat default).2.2.2.1), .p (.i (l.getD (i : Int).toNat default).2.2.2.2.1), .p (.i (l.getD (i : Int).toNat default).2.2.2.2.2)]] True (.tup [.agg (cL cw cl false), .agg (xL (y1, y2, y3, (y4, y5), y6)), .one (.p (.i er))]) := ⟨fun _ => dw⟩
  clear dw
  by_cases he : er = 0
  · as_aux_lemma =>
      have d5 : decide (er = 0) = true := decide_eq_true he
      obtain ⟨uq', ra', ec, hy⟩ := hop he
      rw [← hcf] at ec
      have e1 : cw = (cf (k0 ++ [(y1, y2, y3, (y4, y5), y6)])).1 := by rw [ec]
      have e2 : cl = (cf (k0 ++ [(y1, y2, y3, (y4, y5), y6)])).2 := by rw [ec]
      clear hop
      subst e1 e2
      have hlk := ra'.len
      have hlE : (E ++ [(y1, y2, y3, (y4, y5), y6)]).length = E.length + 1 := by rw [List.length_append]; rfl
      have cc := mCart_w (k0 ++ [(y1, y2, y3, (y4, y5), y6)]) false (by omega) (fun x hx => Nat.le_trans (ra'.offs x hx) (by decide)) ra'.bd
      rw [ra'.cart (by omega), ← hcf] at cc
      have cs := same_w (cf (k0 ++ [(y1, y2, y3, (y4, y5), y6)])).1 (cf (k0 ++ [(y1, y2, y3, (y4, y5), y6)])).1 (cf (k0 ++ [(y1, y2, y3, (y4, y5), y6)])).2 (cf (k0 ++ [(y1, y2, y3, (y4, y5), y6)])).2 false false (by rw [hcf]; exact crt_len8 _) (by rw [hcf]; exact crt_len8 _) (by rw [hcf]; have := crt_few (k0 ++ [(y1, y2, y3, (y4, y5), y6)]); omega)
      rw [show sameF (cf (k0 ++ [(y1, y2, y3, (y4, y5), y6)])).1 (cf (k0 ++ [(y1, y2, y3, (y4, y5), y6)])).1 (cf (k0 ++ [(y1, y2, y3, (y4, y5), y6)])).2 (cf (k0 ++ [(y1, y2, y3, (y4, y5), y6)])).2 = true by simp [sameF]] at cs
      haveI : PC Tryz.prog 34 [.p (.sl 6 ((([] ++ k0) ++ [(y1, y2, y3, (y4, y5), y6)]).map xR) false)] True (.tup [.agg (cL (cf (k0 ++ [(y1, y2, y3, (y4, y5), y6)])).1 (cf (k0 ++ [(y1, y2, y3, (y4, y5), y6)])).2 false), .one (.p (.i 0))]) := ⟨fun _ => cc⟩
      haveI : PC Tryz.prog 35 [cV (cf (k0 ++ [(y1, y2, y3, (y4, y5), y6)])).1 (cf (k0 ++ [(y1, y2, y3, (y4, y5), y6)])).2 false, cV (cf (k0 ++ [(y1, y2, y3, (y4, y5), y6)])).1 (cf (k0 ++ [(y1, y2, y3, (y4, y5), y6)])).2 false] True (.p (.b true)) := ⟨fun _ => cs⟩
      have lk : k0.length ≤ 40 := by have := r0.len; omega
      clear cc cs ec
      repeat' (first | refine rnC ?_ | refine rnSE ?_ | refine rnG ?_ | refine rnU ?_ | refine rkC ?_ | refine rkSE ?_ | refine rkF ?_ | refine rkU ?_ | refine stp ?_ | refine ifT ?_ | refine ifF ?_ | fail)
      refine aws_draws [] mixed (by kernel_rfl) ?_
      repeat' (first | refine rk_nil ?_ | refine rkC ?_ | refine rkSE ?_ | refine rkF ?_ | refine rkU ?_ | ((fail_if_success (refine rkKn ?_)); refine rkP ?_ ?_ <;> (intro hq; try (have hq' := hq; simp only [hqs] at hq'))))
      repeat' (first | refine rnC ?_ | refine rnSE ?_ | refine rnG ?_ | refine rnU ?_ | refine rkC ?_ | refine rkSE ?_ | refine rkF ?_ | refine rkU ?_ | refine stp ?_ | refine ifT ?_ | refine ifF ?_ | fail)
      refine aws_draws [(16, 10), (17, 11), (18, 10), (19, 11)] mixed (by kernel_rfl) ?_
      repeat' (first | refine rk_nil ?_ | refine rkC ?_ | refine rkSE ?_ | refine rkF ?_ | refine rkU ?_ | ((fail_if_success (refine rkKn ?_)); refine rkP ?_ ?_ <;> (intro hq; try (have hq' := hq; simp only [hqs] at hq'))))
      repeat' (first | refine rnC ?_ | refine rnSE ?_ | refine rnG ?_ | refine rnU ?_ | refine rkC ?_ | refine rkSE ?_ | refine rkF ?_ | refine rkU ?_ | refine stp ?_ | refine ifT ?_ | refine ifF ?_ | fail)
      refine aws_draws [(3, 87), (7, 87), (10, 87), (12, 3), (14, 4)] mixed (by kernel_rfl) ?_
      repeat' (first | refine rk_nil ?_ | refine rkC ?_ | refine rkSE ?_ | refine rkF ?_ | refine rkU ?_ | ((fail_if_success (refine rkKn ?_)); refine rkP ?_ ?_ <;> (intro hq; try (have hq' := hq; simp only [hqs] at hq'))))
      refine aws_says (says_frz_at (p := 4) (o := 87) (k := 0) (ds := [.p (.sl 6 ((([] ++ k0) ++ [(y1, y2, y3, (y4, y5), y6)]).map xR) false), .p (.sl 6 ((k1).map xR) false), .p (.sl 6 ((k2).map xR) false)]) rfl rfl rfl rfl rfl (by simp) (by decide)) ?_
      as_aux_lemma =>
        repeat' (first | refine rnC ?_ | refine rnSE ?_ | refine rnG ?_ | refine rnU ?_ | ((fail_if_success (refine rnKn ?_)); refine rnP ?_ ?_ <;> (intro hq; try (have hq' := hq; simp only [hqs] at hq'))) | refine rkC ?_ | refine rkSE ?_ | refine rkF ?_ | refine rkU ?_ | ((fail_if_success (refine rkKn ?_)); refine rkP ?_ ?_ <;> (intro hq; try (have hq' := hq; simp only [hqs] at hq'))) | refine stp ?_ | refine aws_draws [] mixed (by kernel_rfl) ?_ | refine ifT ?_ | refine ifF ?_ | (refine ifQ ?_ ?_ <;> (try (intro hn))) | (refine ifB ?_ ?_ <;> (intro hq; try (have hq' := hq; simp only [hqs] at hq'))))
        exact ⟨(i + 1, (k0 ++ [(y1, y2, y3, (y4, y5), y6)], k1, k2), (_, _), (_, _), (_, _), (_, _), (_, _)), _, by dsimp only; omega, ⟨by dsimp only; omega, by dsimp only; omega, E ++ [(y1, y2, y3, (y4, y5), y6)], by rw [hlE]; dsimp only; omega, uq', ra', r1.more (nd := 1) hy (by decide), r2.more (nd := 1) hy (by decide)⟩, .refl, by exact frA⟩
  · as_aux_lemma =>
      have d5 : decide (er = 0) = false := decide_eq_false he
      have cc := mCart_w k0 false (by have := r0.len; omega) (fun x hx => Nat.le_trans (r0.offs x hx) (by decide)) r0.bd
      rw [r0.cart (by omega), ← hcf] at cc
      have cs := same_w (cf k0).1 (cf k0).1 (cf k0).2 (cf k0).2 false false (by rw [hcf]; exact crt_len8 _) (by rw [hcf]; exact crt_len8 _) (by rw [hcf]; have := crt_few k0; have := r0.len; omega)
      rw [show sameF (cf k0).1 (cf k0).1 (cf k0).2 (cf k0).2 = true by simp [sameF]] at cs
      haveI : PC Tryz.prog 34 [.p (.sl 6 ((k0).map xR) false)] True (.tup [.agg (cL (cf k0).1 (cf k0).2 false), .one (.p (.i 0))]) := ⟨fun _ => cc⟩
      haveI : PC Tryz.prog 35 [cV (cf k0).1 (cf k0).2 false, cV (cf k0).1 (cf k0).2 false] True (.p (.b true)) := ⟨fun _ => cs⟩
      clear cc cs hop
      repeat' (first | refine rnC ?_ | refine rnSE ?_ | refine rnG ?_ | refine rnU ?_ | refine rkC ?_ | refine rkSE ?_ | refine rkF ?_ | refine rkU ?_ | refine stp ?_ | refine ifT ?_ | refine ifF ?_ | fail)
      refine aws_draws [] mixed (by kernel_rfl) ?_
      repeat' (first | refine rk_nil ?_ | refine rkC ?_ | refine rkSE ?_ | refine rkF ?_ | refine rkU ?_ | ((fail_if_success (refine rkKn ?_)); refine rkP ?_ ?_ <;> (intro hq; try (have hq' := hq; simp only [hqs] at hq'))))
      repeat' (first | refine rnC ?_ | refine rnSE ?_ | refine rnG ?_ | refine rnU ?_ | refine rkC ?_ | refine rkSE ?_ | refine rkF ?_ | refine rkU ?_ | refine stp ?_ | refine ifT ?_ | refine ifF ?_ | fail)
      refine aws_draws [(16, 10), (17, 11), (18, 10), (19, 11)] mixed (by kernel_rfl) ?_
      repeat' (first | refine rk_nil ?_ | refine rkC ?_ | refine rkSE ?_ | refine rkF ?_ | refine rkU ?_ | ((fail_if_success (refine rkKn ?_)); refine rkP ?_ ?_ <;> (intro hq; try (have hq' := hq; simp only [hqs] at hq'))))
      as_aux_lemma =>
        repeat' (first | refine rnC ?_ | refine rnSE ?_ | refine rnG ?_ | refine rnU ?_ | ((fail_if_success (refine rnKn ?_)); refine rnP ?_ ?_ <;> (intro hq; try (have hq' := hq; simp only [hqs] at hq'))) | refine rkC ?_ | refine rkSE ?_ | refine rkF ?_ | refine rkU ?_ | ((fail_if_success (refine rkKn ?_)); refine rkP ?_ ?_ <;> (intro hq; try (have hq' := hq; simp only [hqs] at hq'))) | refine stp ?_ | refine aws_draws [] mixed (by kernel_rfl) ?_ | refine ifT ?_ | refine ifF ?_ | (refine ifQ ?_ ?_ <;> (try (intro hn))) | (refine ifB ?_ ?_ <;> (intro hq; try (have hq' := hq; simp only [hqs] at hq'))))
        exact ⟨(i + 1, (k0, k1, k2), (_, _), (_, _), (_, _), (_, _), (_, _)), _, by dsimp only; omega, ⟨by dsimp only; omega, by dsimp only; omega, E, by dsimp only; omega, uq, r0, r1, r2⟩, .refl, by exact frA⟩
end Go.Proofs.YtebjmleheiefdaaGreat.Ca
