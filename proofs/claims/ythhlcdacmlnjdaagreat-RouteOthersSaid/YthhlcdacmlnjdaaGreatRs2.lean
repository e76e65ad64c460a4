/- SHA-256, the reference: a word of a block -/
import Derived.Test.YthhlcdacmlnjdaaGreatRs1
namespace Go.Proofs.YthhlcdacmlnjdaaGreat.Sh
open Go Go.RowKit Go.Aw Go.Aw.Sha
set_option linter.unusedVariables false
set_option linter.unusedSimpArgs false
set_option maxRecDepth 8000
set_option maxHeartbeats 4000000

def wordR (b w : List Nat) (t : Nat) : Nat := if t < 16 then word4 b t else wordN w t
abbrev wbox (w : List Nat) : MO := .box 111 (w.map uc)
attribute [local irreducible] rotr
theorem getD_lt {b : List Nat} {m : Nat} (h : ∀ x ∈ b, x < m) (h0 : 0 < m) (i : Nat) : b.getD i default < m := by
  rw [List.getD_eq_getElem?_getD]
  cases hx : b[i]? with
  | none => exact h0
  | some x => exact h x (List.mem_of_getElem? hx)
theorem getD_drop {b : List Nat} {n i : Nat} : (b.drop n).getD i default = b.getD (n + i) default := by
  rw [List.getD_eq_getElem?_getD, List.getD_eq_getElem?_getD, List.getElem?_drop]
theorem wbox_ren {ρ : Rn} {w : List Nat} : MO.ren ρ (wbox w) = wbox w := by
  show MO.box _ ((w.map uc).map (AC.ren ρ)) = _
  rw [List.map_map]; rfl
theorem rword_c (n : Nat) (b w : List Nat) (ex : Bool) (t : Nat) (h : b.length = 64 ∧ w.length = 64 ∧ t < 64) (hb : okB b) (hw : ∀ i, w.getD i default < M) :
    OCall Tryz.prog 71 [bytesN b ex, .o (.asl 1000 n 0 64 64), .p (.i (t : Int))] (memL [(1000, (n + 1, some (wbox w)))]) (.p (.k .u64 ((wordR b w t : Nat) : Int))) (memL [(1000, (n + 1, some (wbox w)))]) := by
  refine ocall_of1 Tryz.func71 rfl (fun w0 F S0 M0 => ?_)
  obtain ⟨hbl, hwl, ht⟩ := h
  by_cases h16 : t < 16
  · have hd : decide ((t : Int) < 16) = true := decide_eq_true (by omega)
    repeat' (first
        | refine rnBW ?_
        | refine rnSB ?_
        | refine rnG ?_
        | refine rnU ?_
        | ((fail_if_success (refine rnKn ?_)); refine rnP ?_ ?_ <;> (intro hq; try (have hq' := hq; simp only [hqs] at hq')))
        | refine rkBW ?_
        | refine rkSB ?_
        | refine rkF ?_
        | refine rkU ?_
        | ((fail_if_success (refine rkKn ?_)); refine rkP ?_ ?_ <;> (intro hq; try (have hq' := hq; simp only [hqs] at hq')))
        | refine stp ?_
        | refine ifT ?_
        | refine ifF ?_
        | (refine ifQ ?_ ?_ <;> (try (intro hn)))
        | (refine ifB ?_ ?_ <;> (intro hq; try (have hq' := hq; simp only [hqs] at hq'))))
    refine aws_draws [] mixed (by kernel_rfl) ?_
    repeat' (first
        | refine rk_nil ?_
        | refine rkBW ?_
        | refine rkSB ?_
        | refine rkF ?_
        | refine rkU ?_
        | ((fail_if_success (refine rkKn ?_)); refine rkP ?_ ?_ <;> (intro hq; try (have hq' := hq; simp only [hqs] at hq'))))
    repeat' (first
        | refine rnBW ?_
        | refine rnSB ?_
        | refine rnG ?_
        | refine rnU ?_
        | ((fail_if_success (refine rnKn ?_)); refine rnP ?_ ?_ <;> (intro hq; try (have hq' := hq; simp only [hqs] at hq')))
        | refine rkBW ?_
        | refine rkSB ?_
        | refine rkF ?_
        | refine rkU ?_
        | ((fail_if_success (refine rkKn ?_)); refine rkP ?_ ?_ <;> (intro hq; try (have hq' := hq; simp only [hqs] at hq')))
        | refine stp ?_
        | refine ifT ?_
        | refine ifF ?_
        | (refine ifQ ?_ ?_ <;> (try (intro hn)))
        | (refine ifB ?_ ?_ <;> (intro hq; try (have hq' := hq; simp only [hqs] at hq'))))
    refine RetO.mk (ot1 rfl rfl finS_p (ri ?_)) ⟨finM_box rfl finL_p, trivial⟩
    have e0 : (4 * (t : Int)).toNat = 4 * t + 0 := by omega
    have e1 : (4 * (t : Int) + 1).toNat = 4 * t + 1 := by omega
    have e2 : (4 * (t : Int) + 2).toNat = 4 * t + 2 := by omega
    have e3 : (4 * (t : Int) + 3).toNat = 4 * t + 3 := by omega
    rw [e0, e1, e2, e3]
    have k0 := getD_lt (m := 256) hb (by decide) (4 * t + 0)
    have k1 := getD_lt (m := 256) hb (by decide) (4 * t + 1)
    have k2 := getD_lt (m := 256) hb (by decide) (4 * t + 2)
    have k3 := getD_lt (m := 256) hb (by decide) (4 * t + 3)
    unfold wordR
    rw [if_pos h16, word4_eq (t := t) getD_drop getD_drop getD_drop getD_drop k0 k1 k2 k3]
    refine congrArg Nat.cast ?_
    generalize b.getD (4 * t + 0) default = b0 at *
    generalize b.getD (4 * t + 1) default = b1 at *
    generalize b.getD (4 * t + 2) default = b2 at *
    generalize b.getD (4 * t + 3) default = b3 at *
    simp only [md]
    omega
  · have hd : decide ((t : Int) < 16) = false := decide_eq_false (by omega)
    have hx := hw ((t : Int) - 15).toNat
    have hy := hw ((t : Int) - 2).toNat
    repeat' (first
        | refine rnBW ?_
        | refine rnSB ?_
        | refine rnG ?_
        | refine rnU ?_
        | ((fail_if_success (refine rnKn ?_)); refine rnP ?_ ?_ <;> (intro hq; try (have hq' := hq; simp only [hqs] at hq')))
        | refine rkBW ?_
        | refine rkSB ?_
        | refine rkF ?_
        | refine rkU ?_
        | ((fail_if_success (refine rkKn ?_)); refine rkP ?_ ?_ <;> (intro hq; try (have hq' := hq; simp only [hqs] at hq')))
        | refine stp ?_
        | refine ifT ?_
        | refine ifF ?_
        | (refine ifQ ?_ ?_ <;> (try (intro hn)))
        | (refine ifB ?_ ?_ <;> (intro hq; try (have hq' := hq; simp only [hqs] at hq'))))
    refine aws_draws [] mixed (by kernel_rfl) ?_
    repeat' (first
        | refine rk_nil ?_
        | refine rkBW ?_
        | refine rkSB ?_
        | refine rkF ?_
        | refine rkU ?_
        | ((fail_if_success (refine rkKn ?_)); refine rkP ?_ ?_ <;> (intro hq; try (have hq' := hq; simp only [hqs] at hq'))))
    repeat' (first
        | refine rnBW ?_
        | refine rnSB ?_
        | refine rnG ?_
        | refine rnU ?_
        | ((fail_if_success (refine rnKn ?_)); refine rnP ?_ ?_ <;> (intro hq; try (have hq' := hq; simp only [hqs] at hq')))
        | refine rkBW ?_
        | refine rkSB ?_
        | refine rkF ?_
        | refine rkU ?_
        | ((fail_if_success (refine rkKn ?_)); refine rkP ?_ ?_ <;> (intro hq; try (have hq' := hq; simp only [hqs] at hq')))
        | refine stp ?_
        | refine ifT ?_
        | refine ifF ?_
        | (refine ifQ ?_ ?_ <;> (try (intro hn)))
        | (refine ifB ?_ ?_ <;> (intro hq; try (have hq' := hq; simp only [hqs] at hq'))))
    refine aws_draws [] mixed (by kernel_rfl) ?_
    repeat' (first
        | refine rk_nil ?_
        | refine rkBW ?_
        | refine rkSB ?_
        | refine rkF ?_
        | refine rkU ?_
        | ((fail_if_success (refine rkKn ?_)); refine rkP ?_ ?_ <;> (intro hq; try (have hq' := hq; simp only [hqs] at hq'))))
    repeat' (first
        | refine rnBW ?_
        | refine rnSB ?_
        | refine rnG ?_
        | refine rnU ?_
        | ((fail_if_success (refine rnKn ?_)); refine rnP ?_ ?_ <;> (intro hq; try (have hq' := hq; simp only [hqs] at hq')))
        | refine rkBW ?_
        | refine rkSB ?_
        | refine rkF ?_
        | refine rkU ?_
        | ((fail_if_success (refine rkKn ?_)); refine rkP ?_ ?_ <;> (intro hq; try (have hq' := hq; simp only [hqs] at hq')))
        | refine stp ?_
        | refine ifT ?_
        | refine ifF ?_
        | (refine ifQ ?_ ?_ <;> (try (intro hn)))
        | (refine ifB ?_ ?_ <;> (intro hq; try (have hq' := hq; simp only [hqs] at hq'))))
    refine RetO.mk (ot1 rfl rfl finS_p (ri ?_)) ⟨finM_box rfl finL_p, trivial⟩
    have e15 : ((t : Int) - 15).toNat = t - 15 := by omega
    have e16 : ((t : Int) - 16).toNat = t - 16 := by omega
    have e2 : ((t : Int) - 2).toNat = t - 2 := by omega
    have e7 : ((t : Int) - 7).toNat = t - 7 := by omega
    rw [e15] at hx; rw [e2] at hy
    rw [e15, e16, e2, e7]
    unfold wordR wordN
    rw [if_neg h16]
    refine congrArg Nat.cast ?_
    have h7 := hw (t - 7)
    have h1 := hw (t - 16)
    generalize w.getD (t - 15) default = x at *
    generalize w.getD (t - 2) default = y at *
    generalize w.getD (t - 16) default = p at *
    generalize w.getD (t - 7) default = q at *
    exact wordN_eq hx hy h1 h7
instance {c n : Nat} {b w : List Nat} {ex : Bool} {t : Nat} : OC Tryz.prog 71 [bytesN b ex, .o (.asl c n 0 64 64), .p (.i (t : Int))] [(c, (n + 1, some (wbox w)))] [] ((b.length = 64 ∧ w.length = 64 ∧ t < 64) ∧ okB b ∧ ∀ i, w.getD i default < M)
    (.p (.k .u64 ((wordR b w t : Nat) : Int))) [(c, (n + 1, some (wbox w)))] := ⟨fun h => by
  have := (rword_c n b w ex t h.1 h.2.1 h.2.2).one c
  simp only [List.map_cons, List.map_nil, Option.map_some, wbox_ren] at this
  exact this⟩
end Go.Proofs.YthhlcdacmlnjdaaGreat.Sh
