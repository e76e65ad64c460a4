/- carts: of an item, off, equal; tallies -/
import Derived.Test.YtpmobjnaiaogbaaGreatCaH
namespace Go.Proofs.YtpmobjnaiaogbaaGreat.Ca
open Go Go.RowKit Go.Aw Go.Aw.Cart
set_option linter.unusedVariables false
set_option linter.unusedSimpArgs false
set_option maxRecDepth 8000
set_option maxHeartbeats 4000000
theorem ofT_in {n : Int} (h : -9223372036854775808 ≤ n ∧ n ≤ 9223372036854775807) : 0 ≤ (ofT n).1 ∧ 0 ≤ (ofT n).2 := by unfold ofT; split <;> (simp only; omega)
def addF (t : Int × Int) (n : Int) : Int × Int := plusF t (ofT n)
theorem add_w (t : Int × Int) (n : Int) (h : 0 ≤ t.1 ∧ 0 ≤ t.2) (hn : -9223372036854775808 ≤ n ∧ n ≤ 9223372036854775807) : PCall Tryz.prog 42 [tV t, .p (.i n)] (tV (addF t n)) := by
  refine pcall_of Tryz.func42 rfl (fun w0 F S0 M0 => ?_)
  obtain ⟨h1, h2⟩ := h
  obtain ⟨h3, h4⟩ := hn
  obtain ⟨h5, h6⟩ := ofT_in ⟨h3, h4⟩
  repeat' (first
      | refine rnJ ?_
      | refine rnSB ?_
      | refine rnG ?_
      | refine rnU ?_
      | ((fail_if_success (refine rnKn ?_)); refine rnP ?_ ?_ <;> (intro hq; try (have hq' := hq; simp only [hqs] at hq')))
      | refine rkJ ?_
      | refine rkSB ?_
      | refine rkF ?_
      | refine rkU ?_
      | ((fail_if_success (refine rkKn ?_)); refine rkP ?_ ?_ <;> (intro hq; try (have hq' := hq; simp only [hqs] at hq')))
      | refine stp ?_
      | refine ifT ?_
      | refine ifF ?_
      | (refine ifQ ?_ ?_ <;> (try (intro hn)))
      | (refine ifB ?_ ?_ <;> (intro hq; try (have hq' := hq; simp only [hqs] at hq'))))
  refine aws_draws [(4, 4)] mixed (by kernel_rfl) ?_
  repeat' (first
      | refine rk_nil ?_
      | refine rkJ ?_
      | refine rkSB ?_
      | refine rkF ?_
      | refine rkU ?_
      | ((fail_if_success (refine rkKn ?_)); refine rkP ?_ ?_ <;> (intro hq; try (have hq' := hq; simp only [hqs] at hq'))))
  repeat' (first
      | refine rnJ ?_
      | refine rnSB ?_
      | refine rnG ?_
      | refine rnU ?_
      | ((fail_if_success (refine rnKn ?_)); refine rnP ?_ ?_ <;> (intro hq; try (have hq' := hq; simp only [hqs] at hq')))
      | refine rkJ ?_
      | refine rkSB ?_
      | refine rkF ?_
      | refine rkU ?_
      | ((fail_if_success (refine rkKn ?_)); refine rkP ?_ ?_ <;> (intro hq; try (have hq' := hq; simp only [hqs] at hq')))
      | refine stp ?_
      | refine ifT ?_
      | refine ifF ?_
      | (refine ifQ ?_ ?_ <;> (try (intro hn)))
      | (refine ifB ?_ ?_ <;> (intro hq; try (have hq' := hq; simp only [hqs] at hq'))))
  exact rc1 rfl rfl rfl rfl rfl rfl finL_p rfl
instance {t : Int × Int} {n : Int} : PC Tryz.prog 42 [tV t, .p (.i n)] (0 ≤ t.1 ∧ 0 ≤ t.2 ∧ -9223372036854775808 ≤ n ∧ n ≤ 9223372036854775807) (tV (addF t n)) := ⟨fun h => add_w t n ⟨h.1, h.2.1⟩ h.2.2⟩
theorem of1_w (e : Ent) (item : Int) : PCall Tryz.prog 57 [eV e, .p (.bx [.i item] 0)] (.p (.b (decide (e.1 ≠ item)))) := by
  refine pcall_of Tryz.func57 rfl (fun w0 F S0 M0 => ?_)
  repeat' (first
      | refine rnY ?_
      | refine rnSQ ?_
      | refine rnG ?_
      | refine rnU ?_
      | ((fail_if_success (refine rnKn ?_)); refine rnP ?_ ?_ <;> (intro hq; try (have hq' := hq; simp only [hqs] at hq')))
      | refine rkY ?_
      | refine rkSQ ?_
      | refine rkF ?_
      | refine rkU ?_
      | ((fail_if_success (refine rkKn ?_)); refine rkP ?_ ?_ <;> (intro hq; try (have hq' := hq; simp only [hqs] at hq')))
      | refine stp ?_
      | refine aws_draws [] mixed (by kernel_rfl) ?_
      | refine ifT ?_
      | refine ifF ?_
      | (refine ifQ ?_ ?_ <;> (try (intro hn)))
      | (refine ifB ?_ ?_ <;> (intro hq; try (have hq' := hq; simp only [hqs] at hq'))))
  exact rt1 rfl rfl finS_p rfl
instance {item : Int} : FP Tryz.prog 57 [.bx [.i item] 0] True (fun e => decide (e.1 ≠ item)) := ⟨fun _ e => of1_w e item⟩
def ofF (l : List Ent) (item : Int) : List Ent := l.filter fun e => decide (e.1 = item)
theorem ofF_is (l : List Ent) (item : Int) : ofF l item = (([] : List Ent) ++ l).filter fun e => !decide (e.1 ≠ item) := by
  rw [List.nil_append, ofF]
  congr 1
  funext e
  by_cases h : e.1 = item <;> simp [h]
theorem of_w (v : List Int) (l : List Ent) (ex : Bool) (item : Int) (h : l.length ≤ 1000000000) : PCall Tryz.prog 26 [cV v l ex, .p (.i item)] (.p (.sl 4 ((ofF l item).map eR) false)) := by
  refine pcall_of Tryz.func26 rfl (fun w0 F S0 M0 => ?_)
  cases l with
  | nil =>
    repeat' (first
        | refine rnY ?_
        | refine rnSQ ?_
        | refine rnG ?_
        | refine rnU ?_
        | ((fail_if_success (refine rnKn ?_)); refine rnP ?_ ?_ <;> (intro hq; try (have hq' := hq; simp only [hqs] at hq')))
        | refine rkY ?_
        | refine rkSQ ?_
        | refine rkF ?_
        | refine rkU ?_
        | ((fail_if_success (refine rkKn ?_)); refine rkP ?_ ?_ <;> (intro hq; try (have hq' := hq; simp only [hqs] at hq')))
        | refine stp ?_
        | refine aws_draws [] mixed (by kernel_rfl) ?_
        | refine ifT ?_
        | refine ifF ?_
        | (refine ifQ ?_ ?_ <;> (try (intro hn)))
        | (refine ifB ?_ ?_ <;> (intro hq; try (have hq' := hq; simp only [hqs] at hq'))))
    exact rt1 rfl rfl finS_p rfl
  | cons e0 l0 =>
    generalize hl : e0 :: l0 = l at h ⊢
    have h0 : 0 < l.length := by rw [← hl]; exact Nat.zero_lt_succ _
    rw [ofF_is]
    have h1 : (([] : List Ent) ++ l).length ≤ 1000000000 := h
    repeat' (first
        | refine rnY ?_
        | refine rnSQ ?_
        | refine rnG ?_
        | refine rnU ?_
        | ((fail_if_success (refine rnKn ?_)); refine rnP ?_ ?_ <;> (intro hq; try (have hq' := hq; simp only [hqs] at hq')))
        | refine rkY ?_
        | refine rkSQ ?_
        | refine rkF ?_
        | refine rkU ?_
        | ((fail_if_success (refine rkKn ?_)); refine rkP ?_ ?_ <;> (intro hq; try (have hq' := hq; simp only [hqs] at hq')))
        | refine stp ?_
        | refine aws_draws [] mixed (by kernel_rfl) ?_
        | refine ifT ?_
        | refine ifF ?_
        | (refine ifQ ?_ ?_ <;> (try (intro hn)))
        | (refine ifB ?_ ?_ <;> (intro hq; try (have hq' := hq; simp only [hqs] at hq'))))
    exact rt1 rfl rfl (.one (finC_map rfl rfl rfl rfl)) rfl
instance {v : List Int} {l : List Ent} {ex : Bool} {item : Int} : PC Tryz.prog 26 [cV v l ex, .p (.i item)] (l.length ≤ 1000000000) (.p (.sl 4 ((ofF l item).map eR) false)) := ⟨of_w v l ex item⟩
theorem isOff1_w (e : Ent) (d : Dot) : PCall Tryz.prog 52 [eV e, .p (.bx (dR d) 0)] (.p (.b (decide (dotE e = d)))) := by
  refine pcall_of Tryz.func52 rfl (fun w0 F S0 M0 => ?_)
  rw [← vEqD]
  repeat' (first
      | refine rnY ?_
      | refine rnSQ ?_
      | refine rnG ?_
      | refine rnU ?_
      | ((fail_if_success (refine rnKn ?_)); refine rnP ?_ ?_ <;> (intro hq; try (have hq' := hq; simp only [hqs] at hq')))
      | refine rkY ?_
      | refine rkSQ ?_
      | refine rkF ?_
      | refine rkU ?_
      | ((fail_if_success (refine rkKn ?_)); refine rkP ?_ ?_ <;> (intro hq; try (have hq' := hq; simp only [hqs] at hq')))
      | refine stp ?_
      | refine aws_draws [] mixed (by kernel_rfl) ?_
      | refine ifT ?_
      | refine ifF ?_
      | (refine ifQ ?_ ?_ <;> (try (intro hn)))
      | (refine ifB ?_ ?_ <;> (intro hq; try (have hq' := hq; simp only [hqs] at hq'))))
  exact rt1 rfl rfl finS_p rfl
instance {d : Dot} : FP Tryz.prog 52 [.bx (dR d) 0] True (fun e => decide (dotE e = d)) := ⟨fun _ e => isOff1_w e d⟩
def isOffF (v : List Int) (l : List Ent) (d : Dot) : Bool := hasF v d && !(l.any fun e => decide (dotE e = d))
theorem isOff_w (v : List Int) (l : List Ent) (ex : Bool) (d : Dot) (hv : v.length = 8) (h : l.length ≤ 1000000000) : PCall Tryz.prog 14 [cV v l ex, dV d] (.p (.b (isOffF v l d))) := by
  refine pcall_of Tryz.func14 rfl (fun w0 F S0 M0 => ?_)
  unfold isOffF
  cases hh : hasF v d with
  | true =>
    repeat' (first
        | refine rnV ?_
        | refine rnSQ ?_
        | refine rnG ?_
        | refine rnU ?_
        | ((fail_if_success (refine rnKn ?_)); refine rnP ?_ ?_ <;> (intro hq; try (have hq' := hq; simp only [hqs] at hq')))
        | refine rkV ?_
        | refine rkSQ ?_
        | refine rkF ?_
        | refine rkU ?_
        | ((fail_if_success (refine rkKn ?_)); refine rkP ?_ ?_ <;> (intro hq; try (have hq' := hq; simp only [hqs] at hq')))
        | refine stp ?_
        | refine aws_draws [] mixed (by kernel_rfl) ?_
        | refine ifT ?_
        | refine ifF ?_
        | (refine ifQ ?_ ?_ <;> (try (intro hn)))
        | (refine ifB ?_ ?_ <;> (intro hq; try (have hq' := hq; simp only [hqs] at hq'))))
    exact rt1 rfl rfl finS_p rfl
  | false =>
    repeat' (first
        | refine rnV ?_
        | refine rnSQ ?_
        | refine rnG ?_
        | refine rnU ?_
        | ((fail_if_success (refine rnKn ?_)); refine rnP ?_ ?_ <;> (intro hq; try (have hq' := hq; simp only [hqs] at hq')))
        | refine rkV ?_
        | refine rkSQ ?_
        | refine rkF ?_
        | refine rkU ?_
        | ((fail_if_success (refine rkKn ?_)); refine rkP ?_ ?_ <;> (intro hq; try (have hq' := hq; simp only [hqs] at hq')))
        | refine stp ?_
        | refine aws_draws [] mixed (by kernel_rfl) ?_
        | refine ifT ?_
        | refine ifF ?_
        | (refine ifQ ?_ ?_ <;> (try (intro hn)))
        | (refine ifB ?_ ?_ <;> (intro hq; try (have hq' := hq; simp only [hqs] at hq'))))
    exact rt1 rfl rfl finS_p rfl
instance {v : List Int} {l : List Ent} {ex : Bool} {d : Dot} : PC Tryz.prog 14 [cV v l ex, dV d] (v.length = 8 ∧ l.length ≤ 1000000000) (.p (.b (isOffF v l d))) := ⟨fun h => isOff_w v l ex d h.1 h.2⟩
theorem vEqV (v w : List Int) (hv : v.length = 8) (hw : w.length = 8) : vEqB [.int .u64 (v.getD 0 default), .int .u64 (v.getD 1 default), .int .u64 (v.getD 2 default), .int .u64 (v.getD 3 default), .int .u64 (v.getD 4 default), .int .u64 (v.getD 5 default), .int .u64 (v.getD 6 default), .int .u64 (v.getD 7 default)] [.int .u64 (w.getD 0 default), .int .u64 (w.getD 1 default), .int .u64 (w.getD 2 default), .int .u64 (w.getD 3 default), .int .u64 (w.getD 4 default), .int .u64 (w.getD 5 default), .int .u64 (w.getD 6 default), .int .u64 (w.getD 7 default)] = decide (v = w) := by
  rw [Bool.eq_iff_iff]
  match v, hv, w, hw with
  | [a0, a1, a2, a3, a4, a5, a6, a7], _, [b0, b1, b2, b3, b4, b5, b6, b7], _ => simp [vEqB, vEq]
def sameF (v w : List Int) (l m : List Ent) : Bool := decide (v = w) && decide (l = m)
theorem same_w (v w : List Int) (l m : List Ent) (ex ey : Bool) (hv : v.length = 8) (hw : w.length = 8) (h : l.length ≤ 1000000000) : PCall Tryz.prog 12 [cV v l ex, cV w m ey] (.p (.b (sameF v w l m))) := by
  refine pcall_of Tryz.func12 rfl (fun w0 F S0 M0 => ?_)
  unfold sameF
  have e := vEqV v w hv hw
  cases hh : decide (v = w) with
  | true =>
    rw [hh] at e
    repeat' (first
        | refine rnY ?_
        | refine rnSQ ?_
        | refine rnG ?_
        | refine rnU ?_
        | ((fail_if_success (refine rnKn ?_)); refine rnP ?_ ?_ <;> (intro hq; try (have hq' := hq; simp only [hqs] at hq')))
        | refine rkY ?_
        | refine rkSQ ?_
        | refine rkF ?_
        | refine rkU ?_
        | ((fail_if_success (refine rkKn ?_)); refine rkP ?_ ?_ <;> (intro hq; try (have hq' := hq; simp only [hqs] at hq')))
        | refine stp ?_
        | refine aws_draws [] mixed (by kernel_rfl) ?_
        | refine ifT ?_
        | refine ifF ?_
        | (refine ifQ ?_ ?_ <;> (try (intro hn)))
        | (refine ifB ?_ ?_ <;> (intro hq; try (have hq' := hq; simp only [hqs] at hq'))))
    exact rt1 rfl rfl finS_p rfl
  | false =>
    rw [hh] at e
    repeat' (first
        | refine rnY ?_
        | refine rnSQ ?_
        | refine rnG ?_
        | refine rnU ?_
        | ((fail_if_success (refine rnKn ?_)); refine rnP ?_ ?_ <;> (intro hq; try (have hq' := hq; simp only [hqs] at hq')))
        | refine rkY ?_
        | refine rkSQ ?_
        | refine rkF ?_
        | refine rkU ?_
        | ((fail_if_success (refine rkKn ?_)); refine rkP ?_ ?_ <;> (intro hq; try (have hq' := hq; simp only [hqs] at hq')))
        | refine stp ?_
        | refine aws_draws [] mixed (by kernel_rfl) ?_
        | refine ifT ?_
        | refine ifF ?_
        | (refine ifQ ?_ ?_ <;> (try (intro hn)))
        | (refine ifB ?_ ?_ <;> (intro hq; try (have hq' := hq; simp only [hqs] at hq'))))
    exact rt1 rfl rfl finS_p rfl
instance {v w : List Int} {l m : List Ent} {ex ey : Bool} : PC Tryz.prog 12 [cV v l ex, cV w m ey] (v.length = 8 ∧ w.length = 8 ∧ l.length ≤ 1000000000) (.p (.b (sameF v w l m))) := ⟨fun h => same_w v w l m ex ey h.1 h.2.1 h.2.2⟩
end Go.Proofs.YtpmobjnaiaogbaaGreat.Ca
