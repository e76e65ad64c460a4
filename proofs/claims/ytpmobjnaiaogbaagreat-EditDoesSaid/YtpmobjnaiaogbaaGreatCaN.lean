/- carts: what they are worth -/
import Derived.Test.YtpmobjnaiaogbaaGreatCaJ
namespace Go.Proofs.YtpmobjnaiaogbaaGreat.Ca
open Go Go.RowKit Go.Aw Go.Aw.Cart
set_option linter.unusedVariables false
set_option linter.unusedSimpArgs false
set_option maxRecDepth 8000
set_option maxHeartbeats 4000000
open J
/-- a line of each item: of the first ones of entries in order -/
def valTo (l : List Ent) : Nat → List Dot
  | 0 => []
  | i + 1 => if (valTo l i) ≠ [] ∧ ((valTo l i).getD ((valTo l i).length - 1) default).1 = ((sortE l).getD i default).1 then valTo l i else valTo l i ++ [(((sortE l).getD i default).1, getQ l ((sortE l).getD i default).1)]
theorem valTo_len (l : List Ent) : ∀ i, (valTo l i).length ≤ i
  | 0 => Nat.le_refl _
  | i + 1 => by
    have := valTo_len l i
    rw [valTo]
    split
    · omega
    · rw [List.length_append, List.length_cons, List.length_nil]; omega
def valueF (l : List Ent) : List Dot := valTo l (sortE l).length
theorem value2_w (v : List Int) (l : List Ent) (ex : Bool) (h : l.length ≤ 1000000000) (hb : ∀ e ∈ l, QB e) : PCall Tryz.prog 19 [cV v l ex] (.p (.sl 2 ((valueF l).map dR) false)) := by
  refine pcall_of Tryz.func19 rfl (fun w0 F S0 M0 => ?_)
  have hs : (sortE l).length = l.length := sortE_len l
  rw [show valueF l = valTo l (sortE l).length from rfl]
  repeat' (first
      | refine rnC ?_
      | refine rnSB ?_
      | refine rnG ?_
      | refine rnU ?_
      | ((fail_if_success (refine rnKn ?_)); refine rnP ?_ ?_ <;> (intro hq; try (have hq' := hq; simp only [hqs] at hq')))
      | refine rkC ?_
      | refine rkSB ?_
      | refine rkF ?_
      | refine rkU ?_
      | ((fail_if_success (refine rkKn ?_)); refine rkP ?_ ?_ <;> (intro hq; try (have hq' := hq; simp only [hqs] at hq')))
      | refine stp ?_
      | refine aws_draws [] mixed (by kernel_rfl) ?_
      | refine ifT ?_
      | refine ifF ?_
      | (refine ifQ ?_ ?_ <;> (try (intro hn)))
      | (refine ifB ?_ ?_ <;> (intro hq; try (have hq' := hq; simp only [hqs] at hq'))))
  refine aws_says (says_nil (t := 3) (o := 902) (ty := 90) (es := 2) rfl rfl (by decide)) ?_
  refine aws_loopS [3, 5, 6, 7, 8, 13, 14, 15, 16, 17, 18, 19, 20, 21, 22, 23, 24, 25, 26, 27, 28, 29, 30, 31, 32, 33, 34, 35, 36, 37, 38, 39, 40, 41, 42, 43, 44, 45, 46] [902, 5] (fun (x : Nat × Nat × List Dot × Option MO) => [(13, .p (.i x.1)), (3, .o (.osl 902 x.2.1 2 0 x.2.2.1.length))]) (fun x => [(902, (x.2.1 + 1, some (.buf 90 2 (x.2.2.1.map dR)))), (5, (x.1, x.2.2.2))])
    (fun x => x.1 ≤ (sortE l).length ∧ x.2.2.1 = valTo l x.1) (fun x => (sortE l).length - x.1) (0, 0, [], none) ⟨Nat.zero_le _, rfl⟩ (by exact knA) (by exact knA) ?_
  rintro ⟨i, g, m, c5⟩ β γ ⟨hi, hm⟩
  simp only at hi hm
  have hml := valTo_len l i
  rw [← hm] at hml
  dsimp only
  by_cases hil : i < (sortE l).length
  · have hd : decide ((i : Int) < ((sortE l).length : Int)) = true := decide_eq_true (by omega)
    have hst : valTo l (i + 1) = if m ≠ [] ∧ (m.getD (m.length - 1) default).1 = ((sortE l).getD i default).1 then m else m ++ [(((sortE l).getD i default).1, getQ l ((sortE l).getD i default).1)] := by rw [valTo, ← hm]
    have ei : (i : Int).toNat = i := Int.toNat_natCast i
    by_cases h0 : m = []
    · subst h0
      have d1 : decide (0 < ((([] : List Dot).length : Nat) : Int)) = false := rfl
      rw [if_neg (by simp)] at hst
      as_aux_lemma =>
        repeat' (first
            | refine rnC ?_
            | refine rnSB ?_
            | refine rnG ?_
            | refine rnU ?_
            | ((fail_if_success (refine rnKn ?_)); refine rnP ?_ ?_ <;> (intro hq; try (have hq' := hq; simp only [hqs] at hq')))
            | refine rkC ?_
            | refine rkSB ?_
            | refine rkF ?_
            | refine rkU ?_
            | ((fail_if_success (refine rkKn ?_)); refine rkP ?_ ?_ <;> (intro hq; try (have hq' := hq; simp only [hqs] at hq')))
            | refine stp ?_
            | refine aws_draws [] mixed (by kernel_rfl) ?_
            | refine ifT ?_
            | refine ifF ?_
            | (refine ifQ ?_ ?_ <;> (try (intro hn)))
            | (refine ifB ?_ ?_ <;> (intro hq; try (have hq' := hq; simp only [hqs] at hq'))))
        refine ⟨(i + 1, g + 1, [] ++ [(((sortE l).getD (i : Int).toNat default).1, getQ l ((sortE l).getD (i : Int).toNat default).1)], some (.box 48 (eL ((sortE l).getD (i : Int).toNat default)))), _, by dsimp only; omega, ⟨by dsimp only; omega, ?_⟩, .refl, by exact frA⟩
        dsimp only
        rw [hst, ei]
    · have hpos : 0 < m.length := List.length_pos_iff.2 h0
      have d1 : decide (0 < (m.length : Int)) = true := decide_eq_true (by omega)
      have em : ((m.length : Int) - 1).toNat = m.length - 1 := by omega
      by_cases hq : (m.getD ((m.length : Int) - 1).toNat default).1 = ((sortE l).getD (i : Int).toNat default).1
      · have d2 : decide ((m.getD ((m.length : Int) - 1).toNat default).1 = ((sortE l).getD (i : Int).toNat default).1) = true := decide_eq_true hq
        rw [em, ei] at hq
        rw [if_pos ⟨h0, hq⟩] at hst
        as_aux_lemma =>
          repeat' (first
              | refine rnC ?_
              | refine rnSB ?_
              | refine rnG ?_
              | refine rnU ?_
              | ((fail_if_success (refine rnKn ?_)); refine rnP ?_ ?_ <;> (intro hq; try (have hq' := hq; simp only [hqs] at hq')))
              | refine rkC ?_
              | refine rkSB ?_
              | refine rkF ?_
              | refine rkU ?_
              | ((fail_if_success (refine rkKn ?_)); refine rkP ?_ ?_ <;> (intro hq; try (have hq' := hq; simp only [hqs] at hq')))
              | refine stp ?_
              | refine aws_draws [] mixed (by kernel_rfl) ?_
              | refine ifT ?_
              | refine ifF ?_
              | (refine ifQ ?_ ?_ <;> (try (intro hn)))
              | (refine ifB ?_ ?_ <;> (intro hq; try (have hq' := hq; simp only [hqs] at hq'))))
          exact ⟨(i + 1, g, m, some (.box 48 (eL ((sortE l).getD (i : Int).toNat default)))), _, by dsimp only; omega, ⟨by dsimp only; omega, hst.symm⟩, .refl, by exact frA⟩
      · have d2 : decide ((m.getD ((m.length : Int) - 1).toNat default).1 = ((sortE l).getD (i : Int).toNat default).1) = false := decide_eq_false hq
        rw [em, ei] at hq
        rw [if_neg (fun k => hq k.2)] at hst
        as_aux_lemma =>
          repeat' (first
              | refine rnC ?_
              | refine rnSB ?_
              | refine rnG ?_
              | refine rnU ?_
              | ((fail_if_success (refine rnKn ?_)); refine rnP ?_ ?_ <;> (intro hq; try (have hq' := hq; simp only [hqs] at hq')))
              | refine rkC ?_
              | refine rkSB ?_
              | refine rkF ?_
              | refine rkU ?_
              | ((fail_if_success (refine rkKn ?_)); refine rkP ?_ ?_ <;> (intro hq; try (have hq' := hq; simp only [hqs] at hq')))
              | refine stp ?_
              | refine aws_draws [] mixed (by kernel_rfl) ?_
              | refine ifT ?_
              | refine ifF ?_
              | (refine ifQ ?_ ?_ <;> (try (intro hn)))
              | (refine ifB ?_ ?_ <;> (intro hq; try (have hq' := hq; simp only [hqs] at hq'))))
          refine ⟨(i + 1, g + 1, m ++ [(((sortE l).getD (i : Int).toNat default).1, getQ l ((sortE l).getD (i : Int).toNat default).1)], some (.box 48 (eL ((sortE l).getD (i : Int).toNat default)))), _, by dsimp only; omega, ⟨by dsimp only; omega, ?_⟩, .refl, by exact frA⟩
          dsimp only
          rw [hst, ei]
  · have hd : decide ((i : Int) < ((sortE l).length : Int)) = false := decide_eq_false (by omega)
    obtain rfl : i = (sortE l).length := by omega
    rw [← hm]
    as_aux_lemma =>
      repeat' (first
          | refine rnC ?_
          | refine rnSB ?_
          | refine rnG ?_
          | refine rnU ?_
          | ((fail_if_success (refine rnKn ?_)); refine rnP ?_ ?_ <;> (intro hq; try (have hq' := hq; simp only [hqs] at hq')))
          | refine rkC ?_
          | refine rkSB ?_
          | refine rkF ?_
          | refine rkU ?_
          | ((fail_if_success (refine rkKn ?_)); refine rkP ?_ ?_ <;> (intro hq; try (have hq' := hq; simp only [hqs] at hq')))
          | refine stp ?_
          | refine aws_draws [] mixed (by kernel_rfl) ?_
          | refine ifT ?_
          | refine ifF ?_
          | (refine ifQ ?_ ?_ <;> (try (intro hn)))
          | (refine ifB ?_ ?_ <;> (intro hq; try (have hq' := hq; simp only [hqs] at hq'))))
      exact rt1 rfl rfl (.one (finC_map rfl rfl rfl rfl)) rfl
instance {v : List Int} {l : List Ent} {ex : Bool} : PC Tryz.prog 19 [cV v l ex] (l.length ≤ 1000000000 ∧ ∀ e ∈ l, QB e) (.p (.sl 2 ((valueF l).map dR) false)) := ⟨fun h => value2_w v l ex h.1 h.2⟩
end Go.Proofs.YtpmobjnaiaogbaaGreat.Ca
