/- routes: List, Holds, Pick; routes: the reference: Others, Shared, Peers; routes: rings of which it is told whether they were asked; routes: the list of a key as a slice of one's own; Others -/
import Derived.Test.YthhlcdacmlnjdaaGreatQ6
namespace Go.Proofs.YthhlcdacmlnjdaaGreat.Rg
open Go Go.RowKit Go.Aw Go.Aw.Cart Go.Aw.Ord Go.Sort Go.Proofs.YthhlcdacmlnjdaaGreat.Ca
set_option linter.unusedVariables false
set_option linter.unusedSimpArgs false
set_option maxRecDepth 8000
set_option maxHeartbeats 4000000
open PB
theorem rList_o (q n v r : Nat) (k : List Nat) (hn : n ≤ 8) (hv : v ≤ 16) (hr : r ≤ 8) (hk : okB k) (hl : k.length ≤ 1000000) : OCall Tryz.prog 13 [.o (.ptr 1000 q 0), strV k] (memL [(1000, (q + 1, some (ringM n v r)))]) (.p (.sl 1 ((rtL n v r k).map iR) false)) (memL [(1000, (q + 1, some (ringM n v r)))]) := by
  refine ocall_of1 Tryz.func13 rfl (fun w0 F S0 M0 => ?_)
  unfold rtL
  cases hq : keyR k with
  | false =>
    haveI : PC Tryz.prog 24 [strV k] True (.p (.b false)) := ⟨fun _ => by have := keyRight_w k hk hl; rwa [hq] at this⟩
    rw [if_neg (by simp)]
    as_aux_lemma =>
      repeat' (first
          | refine rnC ?_
          | refine rnSB ?_
          | refine rnG ?_
          | refine rnU ?_
          | ((fail_if_success (refine rnKn ?_)); refine rnP ?_ ?_ <;> (intro hq; try (have hq' := hq; simp only [hqs] at hq')))
          | refine rkC ?_
          | refine rkSB ?_
          | refine rkF ?_
          | refine rkU ?_
          | ((fail_if_success (refine rkKn ?_)); refine rkP ?_ ?_ <;> (intro hq; try (have hq' := hq; simp only [hqs] at hq')))
          | refine stp ?_
          | refine aws_draws [] mixed (by kernel_rfl) ?_
          | refine ifT ?_
          | refine ifF ?_
          | (refine ifQ ?_ ?_ <;> (try (intro hn)))
          | (refine ifB ?_ ?_ <;> (intro hq; try (have hq' := hq; simp only [hqs] at hq'))))
      exact RetO.mk (ot1 rfl rfl (.one .nil) rfl) ⟨.abs, trivial⟩
  | true =>
    haveI : PC Tryz.prog 24 [strV k] True (.p (.b true)) := ⟨fun _ => by have := keyRight_w k hk hl; rwa [hq] at this⟩
    haveI : PC Tryz.prog 28 [strV k] True (.p (.i (partF k : Int))) := ⟨fun _ => keyPart_w k hk hl⟩
    rw [if_pos rfl]
    obtain ⟨l, hl'⟩ : ∃ l, l = lstF n v r (partF k) := ⟨_, rfl⟩
    haveI : ∀ c g m : Nat, OC Tryz.prog 27 [.o (.ptr c g 0), .p (.i (partF k : Int))] [(c, (m, some (ringM n v r)))] [] (m = g + 1) (.p (.sl 1 (l.map iR) false)) [(c, (m, some (ringM n v r)))] := fun c g m => ⟨fun h => by rw [hl']; exact list_i.call ⟨h, hn, hv, hr⟩⟩
    rw [← hl']
    clear hl'
    as_aux_lemma =>
      repeat' (first
          | refine rnC ?_
          | refine rnSB ?_
          | refine rnG ?_
          | refine rnU ?_
          | ((fail_if_success (refine rnKn ?_)); refine rnP ?_ ?_ <;> (intro hq; try (have hq' := hq; simp only [hqs] at hq')))
          | refine rkC ?_
          | refine rkSB ?_
          | refine rkF ?_
          | refine rkU ?_
          | ((fail_if_success (refine rkKn ?_)); refine rkP ?_ ?_ <;> (intro hq; try (have hq' := hq; simp only [hqs] at hq')))
          | refine stp ?_
          | refine aws_draws [] mixed (by kernel_rfl) ?_
          | refine ifT ?_
          | refine ifF ?_
          | (refine ifQ ?_ ?_ <;> (try (intro hn)))
          | (refine ifB ?_ ?_ <;> (intro hq; try (have hq' := hq; simp only [hqs] at hq'))))
      exact RetO.mk (ot1 rfl rfl finS_p rfl) ⟨.abs, trivial⟩
instance rList_i {c g m n v r : Nat} {k : List Nat} : OC Tryz.prog 13 [.o (.ptr c g 0), strV k] [(c, (m, some (ringM n v r)))] [] (m = g + 1 ∧ n ≤ 8 ∧ v ≤ 16 ∧ r ≤ 8 ∧ okB k ∧ k.length ≤ 1000000) (.p (.sl 1 ((rtL n v r k).map iR) false)) [(c, (m, some (ringM n v r)))] := ⟨fun h => by obtain ⟨rfl, h1, h2, h3, h4, h5⟩ := h; exact (rList_o g n v r k h1 h2 h3 h4 h5).one c⟩
theorem rHolds_o (q n v r : Nat) (node : Int) (k : List Nat) (hn : n ≤ 8) (hv : v ≤ 16) (hr : r ≤ 8) (hk : okB k) (hl : k.length ≤ 1000000) : OCall Tryz.prog 15 [.o (.ptr 1000 q 0), .p (.i node), strV k] (memL [(1000, (q + 1, some (ringM n v r)))]) (.p (.b (decide (node ∈ rtL n v r k)))) (memL [(1000, (q + 1, some (ringM n v r)))]) := by
  refine ocall_of1 Tryz.func15 rfl (fun w0 F S0 M0 => ?_)
  have hlen : (rtL n v r k).length ≤ 1000 := Nat.le_trans (rtL_len n v r k) (by omega)
  as_aux_lemma =>
    repeat' (first
        | refine rnC ?_
        | refine rnSB ?_
        | refine rnG ?_
        | refine rnU ?_
        | ((fail_if_success (refine rnKn ?_)); refine rnP ?_ ?_ <;> (intro hq; try (have hq' := hq; simp only [hqs] at hq')))
        | refine rkC ?_
        | refine rkSB ?_
        | refine rkF ?_
        | refine rkU ?_
        | ((fail_if_success (refine rkKn ?_)); refine rkP ?_ ?_ <;> (intro hq; try (have hq' := hq; simp only [hqs] at hq')))
        | refine stp ?_
        | refine ifT ?_
        | refine ifF ?_
        | (refine ifQ ?_ ?_ <;> (try (intro hn)))
        | (refine ifB ?_ ?_ <;> (intro hq; try (have hq' := hq; simp only [hqs] at hq'))))
    exact RetO.mk (ot1 rfl rfl finS_p rfl) ⟨.abs, trivial⟩
instance rHolds_i {c g m n v r : Nat} {node : Int} {k : List Nat} : OC Tryz.prog 15 [.o (.ptr c g 0), .p (.i node), strV k] [(c, (m, some (ringM n v r)))] [] (m = g + 1 ∧ n ≤ 8 ∧ v ≤ 16 ∧ r ≤ 8 ∧ okB k ∧ k.length ≤ 1000000) (.p (.b (decide (node ∈ rtL n v r k)))) [(c, (m, some (ringM n v r)))] := ⟨fun h => by obtain ⟨rfl, h1, h2, h3, h4, h5⟩ := h; exact (rHolds_o g n v r node k h1 h2 h3 h4 h5).one c⟩
/-! picking -/
theorem pick1_w (e : Int) (U : List Int) (ex : Bool) (hU : U.length ≤ 1000) : PCall Tryz.prog 33 ([AV.p (PVal.i e)] ++ [PVal.bx [.sl 1 (U.map iR) ex] 0].map .p) (.p (.b (decide (e ∈ U)))) := by
  refine pcall_of Tryz.func33 rfl (fun w0 F S0 M0 => ?_)
  as_aux_lemma =>
    repeat' (first
        | refine rnC ?_
        | refine rnSB ?_
        | refine rnG ?_
        | refine rnU ?_
        | ((fail_if_success (refine rnKn ?_)); refine rnP ?_ ?_ <;> (intro hq; try (have hq' := hq; simp only [hqs] at hq')))
        | refine rkC ?_
        | refine rkSB ?_
        | refine rkF ?_
        | refine rkU ?_
        | ((fail_if_success (refine rkKn ?_)); refine rkP ?_ ?_ <;> (intro hq; try (have hq' := hq; simp only [hqs] at hq')))
        | refine stp ?_
        | refine ifT ?_
        | refine ifF ?_
        | (refine ifQ ?_ ?_ <;> (try (intro hn)))
        | (refine ifB ?_ ?_ <;> (intro hq; try (have hq' := hq; simp only [hqs] at hq'))))
    exact rt1 rfl rfl finS_p rfl
def pkI (l U : List Int) : Int := idxPI (fun e => decide (e ∈ U)) l 0 l.length
def pkF (l U : List Int) : Int × Int := if pkI l U < 0 then (0, 15) else (l.getD (pkI l U).toNat default, 0)
def pickF (n v r : Nat) (k : List Nat) (U : List Int) : Int × Int := if keyR k = true then (if (rtL n v r k).length = 0 then (0, 6) else pkF (rtL n v r k) U) else (0, 1)
def pickR (n v r : Nat) (k : List Nat) (U : List Int) : Int × Int := if keyR k = true then pkF (rtL n v r k) U else (0, 1)
theorem rPick_o (q n v r : Nat) (k : List Nat) (U : List Int) (ex : Bool) (hn : n ≤ 8) (hv : v ≤ 16) (hr : r ≤ 8) (hk : okB k) (hl : k.length ≤ 1000000) (hU : U.length ≤ 1000) : OCall Tryz.prog 10 [.o (.ptr 1000 q 0), strV k, .p (.sl 1 (U.map iR) ex)] (memL [(1000, (q + 1, some (ringM n v r)))]) (.tup [.one (.p (.i (pickF n v r k U).1)), .one (.p (.i (pickF n v r k U).2))]) (memL [(1000, (q + 1, some (ringM n v r)))]) := by
  refine ocall_of1 Tryz.func10 rfl (fun w0 F S0 M0 => ?_)
  unfold pickF
  have hlen := rtL_len n v r k
  obtain ⟨l, hl'⟩ : ∃ l, l = rtL n v r k := ⟨_, rfl⟩
  haveI : ∀ c g m : Nat, OC Tryz.prog 13 [.o (.ptr c g 0), strV k] [(c, (m, some (ringM n v r)))] [] (m = g + 1) (.p (.sl 1 (l.map iR) false)) [(c, (m, some (ringM n v r)))] := fun c g m => ⟨fun h => by rw [hl']; exact rList_i.call ⟨h, hn, hv, hr, hk, hl⟩⟩
  rw [← hl'] at hlen ⊢
  clear hl'
  obtain ⟨A, hA⟩ : ∃ A, A = pkI l U := ⟨_, rfl⟩
  haveI : PC Tryz.prog 32 [.p (.sl 1 (l.map iR) false), .p (.fnv 33 [.bx [.sl 1 (U.map iR) ex] 0])] True (.p (.i A)) := ⟨fun _ => by rw [hA]; exact indexFuncI_w _ _ inferInstance (fun e => decide (e ∈ U)) l false (by omega) fun e => pick1_w e U ex hU⟩
  have hP : pkF l U = if A < 0 then (0, 15) else (l.getD A.toNat default, 0) := by rw [hA]; rfl
  have hAl : A < 0 ∨ (0 ≤ A ∧ A < l.length) := by
    rcases DJ.idxPI_found (p := fun e => decide (e ∈ U)) (l := l) l.length 0 (by omega) with ⟨hi, -⟩ | ⟨i0, hi, -, hil, -, -⟩
    · left; rw [hA]; unfold pkI; rw [hi]; decide
    · right; rw [hA]; unfold pkI; rw [hi]; omega
  rw [hP]
  clear hA hP
  cases hq : keyR k with
  | false =>
    haveI : PC Tryz.prog 24 [strV k] True (.p (.b false)) := ⟨fun _ => by have := keyRight_w k hk hl; rwa [hq] at this⟩
    rw [if_neg (show ¬ false = true by simp)]
    as_aux_lemma =>
      repeat' (first
          | refine rnC ?_
          | refine rnSB ?_
          | refine rnG ?_
          | refine rnU ?_
          | ((fail_if_success (refine rnKn ?_)); refine rnP ?_ ?_ <;> (intro hq; try (have hq' := hq; simp only [hqs] at hq')))
          | refine rkC ?_
          | refine rkSB ?_
          | refine rkF ?_
          | refine rkU ?_
          | ((fail_if_success (refine rkKn ?_)); refine rkP ?_ ?_ <;> (intro hq; try (have hq' := hq; simp only [hqs] at hq')))
          | refine stp ?_
          | refine aws_draws [] mixed (by kernel_rfl) ?_
          | refine ifT ?_
          | refine ifF ?_
          | (refine ifQ ?_ ?_ <;> (try (intro hn)))
          | (refine ifB ?_ ?_ <;> (intro hq; try (have hq' := hq; simp only [hqs] at hq'))))
      exact RetO.mk (ot2 rfl rfl finS_p rfl finS_p rfl) ⟨.abs, trivial⟩
  | true =>
    haveI : PC Tryz.prog 24 [strV k] True (.p (.b true)) := ⟨fun _ => by have := keyRight_w k hk hl; rwa [hq] at this⟩
    rw [if_pos (show true = true from rfl)]
    by_cases h0 : l.length = 0
    · have d0 : decide ((l.length : Int) = 0) = true := decide_eq_true (by omega)
      rw [if_pos h0]
      as_aux_lemma =>
        repeat' (first
            | refine rnC ?_
            | refine rnSB ?_
            | refine rnG ?_
            | refine rnU ?_
            | ((fail_if_success (refine rnKn ?_)); refine rnP ?_ ?_ <;> (intro hq; try (have hq' := hq; simp only [hqs] at hq')))
            | refine rkC ?_
            | refine rkSB ?_
            | refine rkF ?_
            | refine rkU ?_
            | ((fail_if_success (refine rkKn ?_)); refine rkP ?_ ?_ <;> (intro hq; try (have hq' := hq; simp only [hqs] at hq')))
            | refine stp ?_
            | refine aws_draws [] mixed (by kernel_rfl) ?_
            | refine ifT ?_
            | refine ifF ?_
            | (refine ifQ ?_ ?_ <;> (try (intro hn)))
            | (refine ifB ?_ ?_ <;> (intro hq; try (have hq' := hq; simp only [hqs] at hq'))))
        exact RetO.mk (ot2 rfl rfl finS_p rfl finS_p rfl) ⟨.abs, trivial⟩
    · have d0 : decide ((l.length : Int) = 0) = false := decide_eq_false (by omega)
      rw [if_neg h0]
      by_cases hA0 : A < 0
      · have d1 : decide (A < 0) = true := decide_eq_true hA0
        rw [if_pos hA0]
        as_aux_lemma =>
          repeat' (first
              | refine rnC ?_
              | refine rnSB ?_
              | refine rnG ?_
              | refine rnU ?_
              | ((fail_if_success (refine rnKn ?_)); refine rnP ?_ ?_ <;> (intro hq; try (have hq' := hq; simp only [hqs] at hq')))
              | refine rkC ?_
              | refine rkSB ?_
              | refine rkF ?_
              | refine rkU ?_
              | ((fail_if_success (refine rkKn ?_)); refine rkP ?_ ?_ <;> (intro hq; try (have hq' := hq; simp only [hqs] at hq')))
              | refine stp ?_
              | refine aws_draws [] mixed (by kernel_rfl) ?_
              | refine ifT ?_
              | refine ifF ?_
              | (refine ifQ ?_ ?_ <;> (try (intro hn)))
              | (refine ifB ?_ ?_ <;> (intro hq; try (have hq' := hq; simp only [hqs] at hq'))))
          exact RetO.mk (ot2 rfl rfl finS_p rfl finS_p rfl) ⟨.abs, trivial⟩
      · have d1 : decide (A < 0) = false := decide_eq_false hA0
        rw [if_neg hA0]
        have hA1 : 0 ≤ A := by omega
        have hA2 : A < l.length := by omega
        clear hAl
        as_aux_lemma =>
          repeat' (first
              | refine rnC ?_
              | refine rnSB ?_
              | refine rnG ?_
              | refine rnU ?_
              | ((fail_if_success (refine rnKn ?_)); refine rnP ?_ ?_ <;> (intro hq; try (have hq' := hq; simp only [hqs] at hq')))
              | refine rkC ?_
              | refine rkSB ?_
              | refine rkF ?_
              | refine rkU ?_
              | ((fail_if_success (refine rkKn ?_)); refine rkP ?_ ?_ <;> (intro hq; try (have hq' := hq; simp only [hqs] at hq')))
              | refine stp ?_
              | refine aws_draws [] mixed (by kernel_rfl) ?_
              | refine ifT ?_
              | refine ifF ?_
              | (refine ifQ ?_ ?_ <;> (try (intro hn)))
              | (refine ifB ?_ ?_ <;> (intro hq; try (have hq' := hq; simp only [hqs] at hq'))))
          exact RetO.mk (ot2 rfl rfl finS_p rfl finS_p rfl) ⟨.abs, trivial⟩
instance rPick_i {c g m n v r : Nat} {k : List Nat} {U : List Int} {ex : Bool} : OC Tryz.prog 10 [.o (.ptr c g 0), strV k, .p (.sl 1 (U.map iR) ex)] [(c, (m, some (ringM n v r)))] [] (m = g + 1 ∧ n ≤ 8 ∧ v ≤ 16 ∧ r ≤ 8 ∧ okB k ∧ k.length ≤ 1000000 ∧ U.length ≤ 1000) (.tup [.one (.p (.i (pickF n v r k U).1)), .one (.p (.i (pickF n v r k U).2))]) [(c, (m, some (ringM n v r)))] := ⟨fun h => by obtain ⟨rfl, h1, h2, h3, h4, h5, h6⟩ := h; exact (rPick_o g n v r k U ex h1 h2 h3 h4 h5 h6).one c⟩
theorem refPick_w (n v r : Nat) (k : List Nat) (U : List Int) (ex : Bool) (hn : n ≤ 8) (hv : v ≤ 16) (hr : r ≤ 8) (hk : okB k) (hl : k.length ≤ 1000000) (hU : U.length ≤ 1000) : PCall Tryz.prog 11 [refV n r ((pts n v).map (·.1)) ((pts n v).map (·.2)), strV k, .p (.sl 1 (U.map iR) ex)] (.tup [.one (.p (.i (pickR n v r k U).1)), .one (.p (.i (pickR n v r k U).2))]) := by
  refine pcall_of Tryz.func11 rfl (fun w0 F S0 M0 => ?_)
  have hR := refList13_w n v r k hn hv hr hk hl
  have hlen := rtL_len n v r k
  unfold pickR
  generalize (pts n v).map (·.1) = P at *
  generalize (pts n v).map (·.2) = O at *
  generalize rtL n v r k = l at *
  cases hq : keyR k with
  | false =>
    haveI : PC Tryz.prog 35 [strV k] True (.p (.b false)) := ⟨fun _ => by have := refKeyRight_w k hk hl; rwa [hq] at this⟩
    rw [if_neg (by simp)]
    as_aux_lemma =>
      repeat' (first
          | refine rnC ?_
          | refine rnSB ?_
          | refine rnG ?_
          | refine rnU ?_
          | ((fail_if_success (refine rnKn ?_)); refine rnP ?_ ?_ <;> (intro hq; try (have hq' := hq; simp only [hqs] at hq')))
          | refine rkC ?_
          | refine rkSB ?_
          | refine rkF ?_
          | refine rkU ?_
          | ((fail_if_success (refine rkKn ?_)); refine rkP ?_ ?_ <;> (intro hq; try (have hq' := hq; simp only [hqs] at hq')))
          | refine stp ?_
          | refine aws_draws [] mixed (by kernel_rfl) ?_
          | refine ifT ?_
          | refine ifF ?_
          | (refine ifQ ?_ ?_ <;> (try (intro hn)))
          | (refine ifB ?_ ?_ <;> (intro hq; try (have hq' := hq; simp only [hqs] at hq'))))
      exact rt2 rfl rfl finS_p rfl finS_p rfl
  | true =>
    haveI : PC Tryz.prog 35 [strV k] True (.p (.b true)) := ⟨fun _ => by have := refKeyRight_w k hk hl; rwa [hq] at this⟩
    haveI : PC Tryz.prog 14 [refV n r P O, strV k] True (.p (.sl 1 (l.map iR) false)) := ⟨fun _ => hR⟩
    rw [if_pos rfl]
    obtain ⟨A, hA⟩ : ∃ A, A = pkI l U := ⟨_, rfl⟩
    have hP : pkF l U = if A < 0 then (0, 15) else (l.getD A.toNat default, 0) := by rw [hA]; rfl
    rw [hP]
    clear hP
    repeat' (first
        | refine rnC ?_
        | refine rnSB ?_
        | refine rnG ?_
        | refine rnU ?_
        | ((fail_if_success (refine rnKn ?_)); refine rnP ?_ ?_ <;> (intro hq; try (have hq' := hq; simp only [hqs] at hq')))
        | refine rkC ?_
        | refine rkSB ?_
        | refine rkF ?_
        | refine rkU ?_
        | ((fail_if_success (refine rkKn ?_)); refine rkP ?_ ?_ <;> (intro hq; try (have hq' := hq; simp only [hqs] at hq')))
        | refine stp ?_
        | refine aws_draws [] mixed (by kernel_rfl) ?_
        | refine ifT ?_
        | refine ifF ?_
        | (refine ifQ ?_ ?_ <;> (try (intro hn)))
        | (refine ifB ?_ ?_ <;> (intro hq; try (have hq' := hq; simp only [hqs] at hq'))))
    refine aws_loopS [6, 7, 9, 16, 17, 18, 19, 20, 21, 22, 23, 24, 25, 26, 27, 28, 29, 30, 31] [] (fun (i : Nat) => [(9, .p (.i i))]) (fun _ => []) (fun i => i ≤ l.length ∧ A = idxPI (fun e => decide (e ∈ U)) l i (l.length - i)) (fun i => l.length - i) 0 ⟨Nat.zero_le _, hA⟩ (by exact knA) (by exact knA) ?_
    rintro i β γ ⟨hi, hx⟩
    clear hA
    by_cases hil : i < l.length
    · have d1 : decide ((i : Int) < (l.length : Int)) = true := decide_eq_true (by omega)
      have ei : (i : Int).toNat = i := Int.toNat_natCast i
      rw [show l.length - i = (l.length - (i + 1)) + 1 by omega, idxPI] at hx
      by_cases hv : l.getD (i : Int).toNat default ∈ U
      · have d2 : decide (l.getD (i : Int).toNat default ∈ U) = true := decide_eq_true hv
        rw [ei] at hv
        rw [if_pos (decide_eq_true hv)] at hx
        rw [hx, if_neg (show ¬ (i : Int) < 0 by omega)]
        as_aux_lemma =>
          repeat' (first
              | refine rnC ?_
              | refine rnSB ?_
              | refine rnG ?_
              | refine rnU ?_
              | ((fail_if_success (refine rnKn ?_)); refine rnP ?_ ?_ <;> (intro hq; try (have hq' := hq; simp only [hqs] at hq')))
              | refine rkC ?_
              | refine rkSB ?_
              | refine rkF ?_
              | refine rkU ?_
              | ((fail_if_success (refine rkKn ?_)); refine rkP ?_ ?_ <;> (intro hq; try (have hq' := hq; simp only [hqs] at hq')))
              | refine stp ?_
              | refine aws_draws [] mixed (by kernel_rfl) ?_
              | refine ifT ?_
              | refine ifF ?_
              | (refine ifQ ?_ ?_ <;> (try (intro hn)))
              | (refine ifB ?_ ?_ <;> (intro hq; try (have hq' := hq; simp only [hqs] at hq'))))
          exact rt2 rfl rfl finS_p rfl finS_p rfl
      · have d2 : decide (l.getD (i : Int).toNat default ∈ U) = false := decide_eq_false hv
        rw [ei] at hv
        rw [if_neg (by rw [decide_eq_false hv]; simp)] at hx
        as_aux_lemma =>
          repeat' (first
              | refine rnC ?_
              | refine rnSB ?_
              | refine rnG ?_
              | refine rnU ?_
              | ((fail_if_success (refine rnKn ?_)); refine rnP ?_ ?_ <;> (intro hq; try (have hq' := hq; simp only [hqs] at hq')))
              | refine rkC ?_
              | refine rkSB ?_
              | refine rkF ?_
              | refine rkU ?_
              | ((fail_if_success (refine rkKn ?_)); refine rkP ?_ ?_ <;> (intro hq; try (have hq' := hq; simp only [hqs] at hq')))
              | refine stp ?_
              | refine aws_draws [] mixed (by kernel_rfl) ?_
              | refine ifT ?_
              | refine ifF ?_
              | (refine ifQ ?_ ?_ <;> (try (intro hn)))
              | (refine ifB ?_ ?_ <;> (intro hq; try (have hq' := hq; simp only [hqs] at hq'))))
          exact ⟨i + 1, _, by omega, ⟨by omega, hx⟩, .refl, by exact frA⟩
    · have d1 : decide ((i : Int) < (l.length : Int)) = false := decide_eq_false (by omega)
      rw [show l.length - i = 0 by omega, idxPI] at hx
      rw [hx, if_pos (by decide)]
      as_aux_lemma =>
        repeat' (first
            | refine rnC ?_
            | refine rnSB ?_
            | refine rnG ?_
            | refine rnU ?_
            | ((fail_if_success (refine rnKn ?_)); refine rnP ?_ ?_ <;> (intro hq; try (have hq' := hq; simp only [hqs] at hq')))
            | refine rkC ?_
            | refine rkSB ?_
            | refine rkF ?_
            | refine rkU ?_
            | ((fail_if_success (refine rkKn ?_)); refine rkP ?_ ?_ <;> (intro hq; try (have hq' := hq; simp only [hqs] at hq')))
            | refine stp ?_
            | refine aws_draws [] mixed (by kernel_rfl) ?_
            | refine ifT ?_
            | refine ifF ?_
            | (refine ifQ ?_ ?_ <;> (try (intro hn)))
            | (refine ifB ?_ ?_ <;> (intro hq; try (have hq' := hq; simp only [hqs] at hq'))))
        exact rt2 rfl rfl finS_p rfl finS_p rfl
instance refPick_i {n v r : Nat} {k : List Nat} {U : List Int} {ex : Bool} : PC Tryz.prog 11 [refV n r ((pts n v).map (·.1)) ((pts n v).map (·.2)), strV k, .p (.sl 1 (U.map iR) ex)] (n ≤ 8 ∧ v ≤ 16 ∧ r ≤ 8 ∧ okB k ∧ k.length ≤ 1000000 ∧ U.length ≤ 1000) (.tup [.one (.p (.i (pickR n v r k U).1)), .one (.p (.i (pickR n v r k U).2))]) := ⟨fun h => refPick_w n v r k U ex h.1 h.2.1 h.2.2.1 h.2.2.2.1 h.2.2.2.2.1 h.2.2.2.2.2⟩
end Go.Proofs.YthhlcdacmlnjdaaGreat.Rg
namespace Go.Proofs.YthhlcdacmlnjdaaGreat.Rg
open Go Go.RowKit Go.Aw Go.Aw.Cart Go.Aw.Ord Go.Sort Go.Proofs.YthhlcdacmlnjdaaGreat.Ca
set_option linter.unusedVariables false
set_option linter.unusedSimpArgs false
set_option maxRecDepth 8000
set_option maxHeartbeats 4000000
open PB
theorem refOthers_w (n v r : Nat) (k : List Nat) (node : Int) (hn : n ≤ 8) (hv : v ≤ 16) (hr : r ≤ 8) (hk : okB k) (hl : k.length ≤ 1000000) : PCall Tryz.prog 18 [refV n r ((pts n v).map (·.1)) ((pts n v).map (·.2)), strV k, .p (.i node)] (.p (.sl 1 (((rtL n v r k).filter fun e => !decide (e = node)).map iR) false)) := by
  refine pcall_of Tryz.func18 rfl (fun w0 F S0 M0 => ?_)
  have hR := refList13_w n v r k hn hv hr hk hl
  have hlen := rtL_len n v r k
  generalize (pts n v).map (·.1) = P at *
  generalize (pts n v).map (·.2) = O at *
  generalize rtL n v r k = l at *
  haveI : PC Tryz.prog 14 [refV n r P O, strV k] True (.p (.sl 1 (l.map iR) false)) := ⟨fun _ => hR⟩
  repeat' (first
      | refine rnC ?_
      | refine rnSB ?_
      | refine rnG ?_
      | refine rnU ?_
      | ((fail_if_success (refine rnKn ?_)); refine rnP ?_ ?_ <;> (intro hq; try (have hq' := hq; simp only [hqs] at hq')))
      | refine rkC ?_
      | refine rkSB ?_
      | refine rkF ?_
      | refine rkU ?_
      | ((fail_if_success (refine rkKn ?_)); refine rkP ?_ ?_ <;> (intro hq; try (have hq' := hq; simp only [hqs] at hq')))
      | refine stp ?_
      | refine aws_draws [] mixed (by kernel_rfl) ?_
      | refine ifT ?_
      | refine ifF ?_
      | (refine ifQ ?_ ?_ <;> (try (intro hn)))
      | (refine ifB ?_ ?_ <;> (intro hq; try (have hq' := hq; simp only [hqs] at hq'))))
  refine aws_says (says_nil (t := 8) (o := 901) (ty := 3) (es := 1) rfl rfl (by decide)) ?_
  refine aws_loopS [8, 9, 13, 14, 15, 16, 17, 18, 19, 20, 21, 22, 23, 24, 25, 26, 27, 28, 29, 30, 31] [901] (fun (x : Nat × Nat × List Int) => [(9, .p (.i x.1)), (8, .o (.osl 901 x.2.1 1 0 x.2.2.length))]) (fun x => [(901, (x.2.1 + 1, some (.buf 3 1 (x.2.2.map iR))))])
    (fun x => x.1 ≤ l.length ∧ x.2.2 = (l.take x.1).filter fun e => !decide (e = node)) (fun x => l.length - x.1) (0, 0, []) ⟨Nat.zero_le _, rfl⟩ (by exact knA) (by exact knA) ?_
  rintro ⟨i, g, m⟩ β γ ⟨hi, hm⟩
  simp only at hi hm
  dsimp only
  have hml : m.length ≤ 8 := by
    rw [hm]
    exact Nat.le_trans (List.length_filter_le _ _) (by rw [List.length_take]; omega)
  by_cases hil : i < l.length
  · have d1 : decide ((i : Int) < (l.length : Int)) = true := decide_eq_true (by omega)
    have ei : (i : Int).toNat = i := Int.toNat_natCast i
    have hst : (l.take (i + 1)).filter (fun e => !decide (e = node)) = m ++ (if l.getD (i : Int).toNat default = node then [] else [l.getD (i : Int).toNat default]) := by
      rw [take_get' hil, List.filter_append, hm, ei]
      congr 1
      by_cases hx : l.getD i default = node
      · rw [if_pos hx, List.filter_cons_of_neg (by rw [decide_eq_true hx]; simp), List.filter_nil]
      · rw [if_neg hx, List.filter_cons_of_pos (by rw [decide_eq_false hx]; rfl), List.filter_nil]
    by_cases hx : l.getD (i : Int).toNat default = node
    · have d2 : decide (l.getD (i : Int).toNat default ≠ node) = false := decide_eq_false fun q => q hx
      rw [if_pos hx, List.append_nil] at hst
      as_aux_lemma =>
        repeat' (first
            | refine rnC ?_
            | refine rnSB ?_
            | refine rnG ?_
            | refine rnU ?_
            | ((fail_if_success (refine rnKn ?_)); refine rnP ?_ ?_ <;> (intro hq; try (have hq' := hq; simp only [hqs] at hq')))
            | refine rkC ?_
            | refine rkSB ?_
            | refine rkF ?_
            | refine rkU ?_
            | ((fail_if_success (refine rkKn ?_)); refine rkP ?_ ?_ <;> (intro hq; try (have hq' := hq; simp only [hqs] at hq')))
            | refine stp ?_
            | refine aws_draws [] mixed (by kernel_rfl) ?_
            | refine ifT ?_
            | refine ifF ?_
            | (refine ifQ ?_ ?_ <;> (try (intro hn)))
            | (refine ifB ?_ ?_ <;> (intro hq; try (have hq' := hq; simp only [hqs] at hq'))))
        exact ⟨(i + 1, g, m), _, by dsimp only; omega, ⟨by dsimp only; omega, hst.symm⟩, .refl, by exact frA⟩
    · have d2 : decide (l.getD (i : Int).toNat default ≠ node) = true := decide_eq_true hx
      rw [if_neg hx] at hst
      as_aux_lemma =>
        repeat' (first
            | refine rnC ?_
            | refine rnSB ?_
            | refine rnG ?_
            | refine rnU ?_
            | ((fail_if_success (refine rnKn ?_)); refine rnP ?_ ?_ <;> (intro hq; try (have hq' := hq; simp only [hqs] at hq')))
            | refine rkC ?_
            | refine rkSB ?_
            | refine rkF ?_
            | refine rkU ?_
            | ((fail_if_success (refine rkKn ?_)); refine rkP ?_ ?_ <;> (intro hq; try (have hq' := hq; simp only [hqs] at hq')))
            | refine stp ?_
            | refine aws_draws [] mixed (by kernel_rfl) ?_
            | refine ifT ?_
            | refine ifF ?_
            | (refine ifQ ?_ ?_ <;> (try (intro hn)))
            | (refine ifB ?_ ?_ <;> (intro hq; try (have hq' := hq; simp only [hqs] at hq'))))
        exact ⟨(i + 1, g + 1, m ++ [l.getD (i : Int).toNat default]), _, by dsimp only; omega, ⟨by dsimp only; omega, hst.symm⟩, .refl, by exact frA⟩
  · have d1 : decide ((i : Int) < (l.length : Int)) = false := decide_eq_false (by omega)
    rw [show l.take i = l from List.take_of_length_le (by omega)] at hm
    rw [← hm]
    as_aux_lemma =>
      repeat' (first
          | refine rnC ?_
          | refine rnSB ?_
          | refine rnG ?_
          | refine rnU ?_
          | ((fail_if_success (refine rnKn ?_)); refine rnP ?_ ?_ <;> (intro hq; try (have hq' := hq; simp only [hqs] at hq')))
          | refine rkC ?_
          | refine rkSB ?_
          | refine rkF ?_
          | refine rkU ?_
          | ((fail_if_success (refine rkKn ?_)); refine rkP ?_ ?_ <;> (intro hq; try (have hq' := hq; simp only [hqs] at hq')))
          | refine stp ?_
          | refine aws_draws [] mixed (by kernel_rfl) ?_
          | refine ifT ?_
          | refine ifF ?_
          | (refine ifQ ?_ ?_ <;> (try (intro hn)))
          | (refine ifB ?_ ?_ <;> (intro hq; try (have hq' := hq; simp only [hqs] at hq'))))
      exact rt1 rfl rfl (.one (finC_map rfl rfl rfl rfl)) rfl
instance refOthers_i {n v r : Nat} {k : List Nat} {node : Int} : PC Tryz.prog 18 [refV n r ((pts n v).map (·.1)) ((pts n v).map (·.2)), strV k, .p (.i node)] (n ≤ 8 ∧ v ≤ 16 ∧ r ≤ 8 ∧ okB k ∧ k.length ≤ 1000000) (.p (.sl 1 (((rtL n v r k).filter fun e => !decide (e = node)).map iR) false)) := ⟨fun h => refOthers_w n v r k node h.1 h.2.1 h.2.2.1 h.2.2.2.1 h.2.2.2.2⟩
/-- the parts that two nodes both hold -/
def sharesTo (n v r : Nat) (a b : Int) : Nat → List Int
  | 0 => []
  | k + 1 => if a ≠ b ∧ a ∈ lstF n v r k ∧ b ∈ lstF n v r k then sharesTo n v r a b k ++ [(k : Int)] else sharesTo n v r a b k
theorem sharesTo_len (n v r : Nat) (a b : Int) : ∀ k, (sharesTo n v r a b k).length ≤ k
  | 0 => Nat.le_refl _
  | k + 1 => by
    have := sharesTo_len n v r a b k
    rw [sharesTo]
    split
    · rw [List.length_append, List.length_singleton]; omega
    · omega
theorem sharesTo_is (n v r : Nat) (a b : Int) (h : a ≠ b) : ∀ k, k ≤ 8 → sharesTo n v r a b k = (partsTo n v r a k).filter fun p => !(!decide (b ∈ lstF n v r p))
  | 0, _ => rfl
  | k + 1, hk => by
    rw [sharesTo, partsTo, sharesTo_is n v r a b h k (by omega)]
    by_cases ha : a ∈ lstF n v r k
    · rw [if_pos ha, List.filter_append]
      by_cases hb : b ∈ lstF n v r k
      · rw [if_pos ⟨h, ha, hb⟩, List.filter_cons_of_pos (by rw [decide_eq_true hb]; rfl), List.filter_nil]
      · rw [if_neg (fun q => hb q.2.2), List.filter_cons_of_neg (by rw [decide_eq_false hb]; simp), List.filter_nil, List.append_nil]
    · rw [if_neg ha, if_neg (fun q => ha q.2.1)]
theorem sharesTo_eq (n v r : Nat) (a : Int) : ∀ k, sharesTo n v r a a k = []
  | 0 => rfl
  | k + 1 => by rw [sharesTo, if_neg (fun q => q.1 rfl)]; exact sharesTo_eq n v r a k
theorem refShared_w (n v r : Nat) (a b : Int) (hn : n ≤ 8) (hv : v ≤ 16) (hr : r ≤ 8) : PCall Tryz.prog 20 [refV n r ((pts n v).map (·.1)) ((pts n v).map (·.2)), .p (.i a), .p (.i b)] (.p (.sl 1 ((sharesTo n v r a b 8).map iR) false)) := by
  refine pcall_of Tryz.func20 rfl (fun w0 F S0 M0 => ?_)
  have hR := fun part hp => refPart_w n v r part hn hv hr hp
  generalize (pts n v).map (·.1) = P at *
  generalize (pts n v).map (·.2) = O at *
  repeat' (first
      | refine rnC ?_
      | refine rnSB ?_
      | refine rnG ?_
      | refine rnU ?_
      | ((fail_if_success (refine rnKn ?_)); refine rnP ?_ ?_ <;> (intro hq; try (have hq' := hq; simp only [hqs] at hq')))
      | refine rkC ?_
      | refine rkSB ?_
      | refine rkF ?_
      | refine rkU ?_
      | ((fail_if_success (refine rkKn ?_)); refine rkP ?_ ?_ <;> (intro hq; try (have hq' := hq; simp only [hqs] at hq')))
      | refine stp ?_
      | refine aws_draws [] mixed (by kernel_rfl) ?_
      | refine ifT ?_
      | refine ifF ?_
      | (refine ifQ ?_ ?_ <;> (try (intro hn)))
      | (refine ifB ?_ ?_ <;> (intro hq; try (have hq' := hq; simp only [hqs] at hq'))))
  refine aws_says (says_nil (t := 7) (o := 901) (ty := 3) (es := 1) rfl rfl (by decide)) ?_
  refine aws_loopS [7, 8, 9, 10, 11, 12, 13, 14, 15, 16, 17, 18, 19, 20, 21, 22, 23, 24, 25, 26, 27, 28, 29, 30, 31, 32, 33] [901] (fun (x : Nat × Nat × List Int) => [(8, .p (.i x.1)), (7, .o (.osl 901 x.2.1 1 0 x.2.2.length))]) (fun x => [(901, (x.2.1 + 1, some (.buf 3 1 (x.2.2.map iR))))])
    (fun x => x.1 ≤ 8 ∧ x.2.2 = sharesTo n v r a b x.1) (fun x => 8 - x.1) (0, 0, []) ⟨Nat.zero_le _, rfl⟩ (by exact knA) (by exact knA) ?_
  rintro ⟨i, g, m⟩ β γ ⟨hi, hm⟩
  simp only at hi hm
  dsimp only
  have hml : m.length ≤ 8 := by rw [hm]; exact Nat.le_trans (sharesTo_len _ _ _ _ _ _) hi
  by_cases hil : i < 8
  · have d1 : decide ((i : Int) < 8) = true := decide_eq_true (by omega)
    have hst := show sharesTo n v r a b (i + 1) = if a ≠ b ∧ a ∈ lstF n v r i ∧ b ∈ lstF n v r i then sharesTo n v r a b i ++ [(i : Int)] else sharesTo n v r a b i from rfl
    have hll : (lstF n v r i).length ≤ 8 := Nat.le_trans (lstF_len _ _ _ _) (by omega)
    have hq := hR i ⟨by omega, by omega⟩
    rw [← hm] at hst
    generalize lstF n v r i = l at *
    haveI : PC Tryz.prog 36 [refV n r P O, .p (.i i)] True (.p (.sl 1 (l.map iR) false)) := ⟨fun _ => hq⟩
    clear hq hR
    by_cases hab : a = b
    · have d2 : decide (a ≠ b) = false := decide_eq_false fun q => q hab
      rw [if_neg (fun q => q.1 hab)] at hst
      as_aux_lemma =>
        repeat' (first
            | refine rnC ?_
            | refine rnSB ?_
            | refine rnG ?_
            | refine rnU ?_
            | ((fail_if_success (refine rnKn ?_)); refine rnP ?_ ?_ <;> (intro hq; try (have hq' := hq; simp only [hqs] at hq')))
            | refine rkC ?_
            | refine rkSB ?_
            | refine rkF ?_
            | refine rkU ?_
            | ((fail_if_success (refine rkKn ?_)); refine rkP ?_ ?_ <;> (intro hq; try (have hq' := hq; simp only [hqs] at hq')))
            | refine stp ?_
            | refine aws_draws [] mixed (by kernel_rfl) ?_
            | refine ifT ?_
            | refine ifF ?_
            | (refine ifQ ?_ ?_ <;> (try (intro hn)))
            | (refine ifB ?_ ?_ <;> (intro hq; try (have hq' := hq; simp only [hqs] at hq'))))
        exact ⟨(i + 1, g, m), _, by dsimp only; omega, ⟨by dsimp only; omega, hst.symm⟩, .refl, by exact frA⟩
    · have d2 : decide (a ≠ b) = true := decide_eq_true hab
      by_cases ha : a ∈ l
      · have d3 : decide (a ∈ l) = true := decide_eq_true ha
        by_cases hb : b ∈ l
        · have d4 : decide (b ∈ l) = true := decide_eq_true hb
          rw [if_pos ⟨hab, ha, hb⟩] at hst
          as_aux_lemma =>
            repeat' (first
                | refine rnC ?_
                | refine rnSB ?_
                | refine rnG ?_
                | refine rnU ?_
                | ((fail_if_success (refine rnKn ?_)); refine rnP ?_ ?_ <;> (intro hq; try (have hq' := hq; simp only [hqs] at hq')))
                | refine rkC ?_
                | refine rkSB ?_
                | refine rkF ?_
                | refine rkU ?_
                | ((fail_if_success (refine rkKn ?_)); refine rkP ?_ ?_ <;> (intro hq; try (have hq' := hq; simp only [hqs] at hq')))
                | refine stp ?_
                | refine aws_draws [] mixed (by kernel_rfl) ?_
                | refine ifT ?_
                | refine ifF ?_
                | (refine ifQ ?_ ?_ <;> (try (intro hn)))
                | (refine ifB ?_ ?_ <;> (intro hq; try (have hq' := hq; simp only [hqs] at hq'))))
            exact ⟨(i + 1, g + 1, m ++ [(i : Int)]), _, by dsimp only; omega, ⟨by dsimp only; omega, hst.symm⟩, .refl, by exact frA⟩
        · have d4 : decide (b ∈ l) = false := decide_eq_false hb
          rw [if_neg (fun q => hb q.2.2)] at hst
          as_aux_lemma =>
            repeat' (first
                | refine rnC ?_
                | refine rnSB ?_
                | refine rnG ?_
                | refine rnU ?_
                | ((fail_if_success (refine rnKn ?_)); refine rnP ?_ ?_ <;> (intro hq; try (have hq' := hq; simp only [hqs] at hq')))
                | refine rkC ?_
                | refine rkSB ?_
                | refine rkF ?_
                | refine rkU ?_
                | ((fail_if_success (refine rkKn ?_)); refine rkP ?_ ?_ <;> (intro hq; try (have hq' := hq; simp only [hqs] at hq')))
                | refine stp ?_
                | refine aws_draws [] mixed (by kernel_rfl) ?_
                | refine ifT ?_
                | refine ifF ?_
                | (refine ifQ ?_ ?_ <;> (try (intro hn)))
                | (refine ifB ?_ ?_ <;> (intro hq; try (have hq' := hq; simp only [hqs] at hq'))))
            exact ⟨(i + 1, g, m), _, by dsimp only; omega, ⟨by dsimp only; omega, hst.symm⟩, .refl, by exact frA⟩
      · have d3 : decide (a ∈ l) = false := decide_eq_false ha
        rw [if_neg (fun q => ha q.2.1)] at hst
        as_aux_lemma =>
          repeat' (first
              | refine rnC ?_
              | refine rnSB ?_
              | refine rnG ?_
              | refine rnU ?_
              | ((fail_if_success (refine rnKn ?_)); refine rnP ?_ ?_ <;> (intro hq; try (have hq' := hq; simp only [hqs] at hq')))
              | refine rkC ?_
              | refine rkSB ?_
              | refine rkF ?_
              | refine rkU ?_
              | ((fail_if_success (refine rkKn ?_)); refine rkP ?_ ?_ <;> (intro hq; try (have hq' := hq; simp only [hqs] at hq')))
              | refine stp ?_
              | refine aws_draws [] mixed (by kernel_rfl) ?_
              | refine ifT ?_
              | refine ifF ?_
              | (refine ifQ ?_ ?_ <;> (try (intro hn)))
              | (refine ifB ?_ ?_ <;> (intro hq; try (have hq' := hq; simp only [hqs] at hq'))))
          exact ⟨(i + 1, g, m), _, by dsimp only; omega, ⟨by dsimp only; omega, hst.symm⟩, .refl, by exact frA⟩
  · have d1 : decide ((i : Int) < 8) = false := decide_eq_false (by omega)
    obtain rfl : i = 8 := by omega
    rw [← hm]
    as_aux_lemma =>
      repeat' (first
          | refine rnC ?_
          | refine rnSB ?_
          | refine rnG ?_
          | refine rnU ?_
          | ((fail_if_success (refine rnKn ?_)); refine rnP ?_ ?_ <;> (intro hq; try (have hq' := hq; simp only [hqs] at hq')))
          | refine rkC ?_
          | refine rkSB ?_
          | refine rkF ?_
          | refine rkU ?_
          | ((fail_if_success (refine rkKn ?_)); refine rkP ?_ ?_ <;> (intro hq; try (have hq' := hq; simp only [hqs] at hq')))
          | refine stp ?_
          | refine aws_draws [] mixed (by kernel_rfl) ?_
          | refine ifT ?_
          | refine ifF ?_
          | (refine ifQ ?_ ?_ <;> (try (intro hn)))
          | (refine ifB ?_ ?_ <;> (intro hq; try (have hq' := hq; simp only [hqs] at hq'))))
      exact rt1 rfl rfl (.one (finC_map rfl rfl rfl rfl)) rfl
instance refShared_i {n v r : Nat} {a b : Int} : PC Tryz.prog 20 [refV n r ((pts n v).map (·.1)) ((pts n v).map (·.2)), .p (.i a), .p (.i b)] (n ≤ 8 ∧ v ≤ 16 ∧ r ≤ 8) (.p (.sl 1 ((sharesTo n v r a b 8).map iR) false)) := ⟨fun h => refShared_w n v r a b h.1 h.2.1 h.2.2⟩
/-- the nodes that share a part with one -/
def peersTo (n v r : Nat) (node : Int) : Nat → List Int
  | 0 => []
  | k + 1 => if 0 < (sharesTo n v r node ((k : Int) + 1) 8).length then peersTo n v r node k ++ [(k : Int) + 1] else peersTo n v r node k
theorem peersTo_len (n v r : Nat) (node : Int) : ∀ k, (peersTo n v r node k).length ≤ k
  | 0 => Nat.le_refl _
  | k + 1 => by
    have := peersTo_len n v r node k
    rw [peersTo]
    split
    · rw [List.length_append, List.length_singleton]; omega
    · omega
theorem refPeers_w (n v r : Nat) (node : Int) (hn : n ≤ 8) (hv : v ≤ 16) (hr : r ≤ 8) : PCall Tryz.prog 22 [refV n r ((pts n v).map (·.1)) ((pts n v).map (·.2)), .p (.i node)] (.p (.sl 1 ((peersTo n v r node n).map iR) false)) := by
  refine pcall_of Tryz.func22 rfl (fun w0 F S0 M0 => ?_)
  have hR := fun a b => refShared_w n v r a b hn hv hr
  generalize (pts n v).map (·.1) = P at *
  generalize (pts n v).map (·.2) = O at *
  repeat' (first
      | refine rnC ?_
      | refine rnSB ?_
      | refine rnG ?_
      | refine rnU ?_
      | ((fail_if_success (refine rnKn ?_)); refine rnP ?_ ?_ <;> (intro hq; try (have hq' := hq; simp only [hqs] at hq')))
      | refine rkC ?_
      | refine rkSB ?_
      | refine rkF ?_
      | refine rkU ?_
      | ((fail_if_success (refine rkKn ?_)); refine rkP ?_ ?_ <;> (intro hq; try (have hq' := hq; simp only [hqs] at hq')))
      | refine stp ?_
      | refine aws_draws [] mixed (by kernel_rfl) ?_
      | refine ifT ?_
      | refine ifF ?_
      | (refine ifQ ?_ ?_ <;> (try (intro hn)))
      | (refine ifB ?_ ?_ <;> (intro hq; try (have hq' := hq; simp only [hqs] at hq'))))
  refine aws_says (says_nil (t := 5) (o := 901) (ty := 3) (es := 1) rfl rfl (by decide)) ?_
  refine aws_loopS [5, 6, 7, 8, 9, 10, 11, 12, 13, 14, 15, 16, 17, 18, 19, 20, 21, 22] [901] (fun (x : Nat × Nat × List Int) => [(6, .p (.i (x.1 + 1))), (5, .o (.osl 901 x.2.1 1 0 x.2.2.length))]) (fun x => [(901, (x.2.1 + 1, some (.buf 3 1 (x.2.2.map iR))))])
    (fun x => x.1 ≤ n ∧ x.2.2 = peersTo n v r node x.1) (fun x => n - x.1) (0, 0, []) ⟨Nat.zero_le _, rfl⟩ (by exact knA) (by exact knA) ?_
  rintro ⟨i, g, m⟩ β γ ⟨hi, hm⟩
  simp only at hi hm
  dsimp only
  have hml : m.length ≤ 8 := by rw [hm]; exact Nat.le_trans (peersTo_len _ _ _ _ _) (by omega)
  by_cases hil : i < n
  · have d1 : decide ((i : Int) + 1 ≤ (n : Int)) = true := decide_eq_true (by omega)
    have hst := show peersTo n v r node (i + 1) = if 0 < (sharesTo n v r node ((i : Int) + 1) 8).length then peersTo n v r node i ++ [(i : Int) + 1] else peersTo n v r node i from rfl
    have hll := sharesTo_len n v r node ((i : Int) + 1) 8
    have hq := hR node ((i : Int) + 1)
    rw [← hm] at hst
    generalize sharesTo n v r node ((i : Int) + 1) 8 = l at *
    haveI : PC Tryz.prog 20 [refV n r P O, .p (.i node), .p (.i ((i : Int) + 1))] True (.p (.sl 1 (l.map iR) false)) := ⟨fun _ => hq⟩
    clear hq hR
    by_cases h0 : 0 < l.length
    · have d2 : decide (0 < (l.length : Int)) = true := decide_eq_true (by omega)
      rw [if_pos h0] at hst
      as_aux_lemma =>
        repeat' (first
            | refine rnC ?_
            | refine rnSB ?_
            | refine rnG ?_
            | refine rnU ?_
            | ((fail_if_success (refine rnKn ?_)); refine rnP ?_ ?_ <;> (intro hq; try (have hq' := hq; simp only [hqs] at hq')))
            | refine rkC ?_
            | refine rkSB ?_
            | refine rkF ?_
            | refine rkU ?_
            | ((fail_if_success (refine rkKn ?_)); refine rkP ?_ ?_ <;> (intro hq; try (have hq' := hq; simp only [hqs] at hq')))
            | refine stp ?_
            | refine aws_draws [] mixed (by kernel_rfl) ?_
            | refine ifT ?_
            | refine ifF ?_
            | (refine ifQ ?_ ?_ <;> (try (intro hn)))
            | (refine ifB ?_ ?_ <;> (intro hq; try (have hq' := hq; simp only [hqs] at hq'))))
        exact ⟨(i + 1, g + 1, m ++ [(i : Int) + 1]), _, by dsimp only; omega, ⟨by dsimp only; omega, hst.symm⟩, .refl, by exact frA⟩
    · have d2 : decide (0 < (l.length : Int)) = false := decide_eq_false (by omega)
      rw [if_neg h0] at hst
      as_aux_lemma =>
        repeat' (first
            | refine rnC ?_
            | refine rnSB ?_
            | refine rnG ?_
            | refine rnU ?_
            | ((fail_if_success (refine rnKn ?_)); refine rnP ?_ ?_ <;> (intro hq; try (have hq' := hq; simp only [hqs] at hq')))
            | refine rkC ?_
            | refine rkSB ?_
            | refine rkF ?_
            | refine rkU ?_
            | ((fail_if_success (refine rkKn ?_)); refine rkP ?_ ?_ <;> (intro hq; try (have hq' := hq; simp only [hqs] at hq')))
            | refine stp ?_
            | refine aws_draws [] mixed (by kernel_rfl) ?_
            | refine ifT ?_
            | refine ifF ?_
            | (refine ifQ ?_ ?_ <;> (try (intro hn)))
            | (refine ifB ?_ ?_ <;> (intro hq; try (have hq' := hq; simp only [hqs] at hq'))))
        exact ⟨(i + 1, g, m), _, by dsimp only; omega, ⟨by dsimp only; omega, hst.symm⟩, .refl, by exact frA⟩
  · have d1 : decide ((i : Int) + 1 ≤ (n : Int)) = false := decide_eq_false (by omega)
    obtain rfl : i = n := by omega
    rw [← hm]
    as_aux_lemma =>
      repeat' (first
          | refine rnC ?_
          | refine rnSB ?_
          | refine rnG ?_
          | refine rnU ?_
          | ((fail_if_success (refine rnKn ?_)); refine rnP ?_ ?_ <;> (intro hq; try (have hq' := hq; simp only [hqs] at hq')))
          | refine rkC ?_
          | refine rkSB ?_
          | refine rkF ?_
          | refine rkU ?_
          | ((fail_if_success (refine rkKn ?_)); refine rkP ?_ ?_ <;> (intro hq; try (have hq' := hq; simp only [hqs] at hq')))
          | refine stp ?_
          | refine aws_draws [] mixed (by kernel_rfl) ?_
          | refine ifT ?_
          | refine ifF ?_
          | (refine ifQ ?_ ?_ <;> (try (intro hn)))
          | (refine ifB ?_ ?_ <;> (intro hq; try (have hq' := hq; simp only [hqs] at hq'))))
      exact rt1 rfl rfl (.one (finC_map rfl rfl rfl rfl)) rfl
instance refPeers_i {n v r : Nat} {node : Int} : PC Tryz.prog 22 [refV n r ((pts n v).map (·.1)) ((pts n v).map (·.2)), .p (.i node)] (n ≤ 8 ∧ v ≤ 16 ∧ r ≤ 8) (.p (.sl 1 ((peersTo n v r node n).map iR) false)) := ⟨fun h => refPeers_w n v r node h.1 h.2.1 h.2.2⟩
end Go.Proofs.YthhlcdacmlnjdaaGreat.Rg
namespace Go.Proofs.YthhlcdacmlnjdaaGreat.Rg
open Go Go.RowKit Go.Aw Go.Aw.Cart Go.Aw.Ord Go.Sort Go.Proofs.YthhlcdacmlnjdaaGreat.Ca
set_option linter.unusedVariables false
set_option linter.unusedSimpArgs false
set_option maxRecDepth 8000
set_option maxHeartbeats 4000000
/-- a contract with one object that is lent and one that is made -/
theorem ocall_of2 (q : Nat) {P : Program} {f : FuncId} {fn : Func} {body : Code} {args : List AV} {r : AV} {m0 m1 mq : Nat × Option MO} (hf : P.funcs[f]? = some fn) (hb : fn.body = some body)
    (h : ∀ w0 F S0 M0, AWs ⟨P, w0, F, S0, max args.length fn.ntmps, none, M0⟩ [body] (RetO P fn r (kIn [(1000, m1), (q, mq)]) (memL [(1000, m1), (q, mq)])) ⟨fun t => args.getD t .un, memL [(1000, m0)]⟩) : OCall P f args (memL [(1000, m0)]) r (memL [(1000, m1), (q, mq)]) := by
  refine ocall_of (kIn [(1000, m1), (q, mq)]) hf hb (fun o ho => ?_) h
  have : o ≠ 1000 := fun e => by subst e; simp [kIn] at ho
  simp [memL, this]
section
open P8
theorem pointsB_o (q n v r : Nat) (d : Bool) (hn : n ≤ 8) (hv : v ≤ 16) : OCall Tryz.prog 44 [.o (.ptr 1000 q 0)] (memL [(1000, (q + 1, some (ringB d n v r)))]) (.p (.sl 2 ((pts n v).map pR) false)) (memL [(1000, (q + 1, some (ringB true n v r)))]) := by
  refine ocall_of1 Tryz.func44 rfl (fun w0 F S0 M0 => ?_)
  as_aux_lemma =>
    repeat' (first
        | refine rnC ?_
        | refine rnSB ?_
        | refine rnG ?_
        | refine rnU ?_
        | ((fail_if_success (refine rnKn ?_)); refine rnP ?_ ?_ <;> (intro hq; try (have hq' := hq; simp only [hqs] at hq')))
        | refine rkC ?_
        | refine rkSB ?_
        | refine rkF ?_
        | refine rkU ?_
        | ((fail_if_success (refine rkKn ?_)); refine rkP ?_ ?_ <;> (intro hq; try (have hq' := hq; simp only [hqs] at hq')))
        | refine stp ?_
        | refine ifT ?_
        | refine ifF ?_
        | (refine ifQ ?_ ?_ <;> (try (intro hn)))
        | (refine ifB ?_ ?_ <;> (intro hq; try (have hq' := hq; simp only [hqs] at hq'))))
    exact RetO.mk (ot1 rfl rfl finS_p rfl) ⟨finM_box rfl finL_p, trivial⟩
end
instance pointsB_i {c g m n v r : Nat} {d : Bool} : OC Tryz.prog 44 [.o (.ptr c g 0)] [(c, (m, some (ringB d n v r)))] [] (m = g + 1 ∧ n ≤ 8 ∧ v ≤ 16) (.p (.sl 2 ((pts n v).map pR) false)) [(c, (m, some (ringB true n v r)))] := ⟨fun h => by
  obtain ⟨rfl, h1, h2⟩ := h
  have := (pointsB_o g n v r d h1 h2).one c
  rw [ringB_ren, Option.map_some, ringB_ren] at this
  exact this⟩
section
open PB
theorem listInB_o (q n v r : Nat) (d : Bool) (part : Int) (hn : n ≤ 8) (hv : v ≤ 16) (hr : r ≤ 8) (hp : 0 ≤ part ∧ part < 8) : OCall Tryz.prog 27 [.o (.ptr 1000 q 0), .p (.i part)] (memL [(1000, (q + 1, some (ringB d n v r)))]) (.p (.sl 1 ((lstF n v r part).map iR) false)) (memL [(1000, (q + 1, some (ringB true n v r)))]) := by
  refine ocall_of1 Tryz.func27 rfl (fun w0 F S0 M0 => ?_)
  unfold lstF
  rw [if_pos hp]
  obtain ⟨B, hB⟩ : ∃ B, B = 2305843009213693952 * part := ⟨_, rfl⟩
  rw [← hB]
  haveI : PC Tryz.prog 43 [.p (.i part)] True (.tup [.one (.p (.k .u64 B)), .one (.p (.i 0))]) := ⟨fun _ => by have := base_w part; rwa [if_pos hp, if_pos hp, ← hB] at this⟩
  have hl : (pts n v).length ≤ 128 := by rw [pts_len]; exact Nat.mul_le_mul hn hv
  haveI : ∀ c g m : Nat, OC Tryz.prog 44 [.o (.ptr c g 0)] [(c, (m, some (ringB d n v r)))] [] (m = g + 1) (.p (.sl 2 ((pts n v).map pR) false)) [(c, (m, some (ringB true n v r)))] := fun c g m => ⟨fun h => pointsB_i.call ⟨h, hn, hv⟩⟩
  unfold listF
  obtain ⟨i0, hi0, hidx, hrot⟩ := rot_is (B := B) (show upI ltD (pts n v) from sortD_up _)
  rw [← hrot]
  generalize pts n v = L at *
  obtain ⟨K, hK⟩ : ∃ K, K = idxP (geF B) L 0 L.length := ⟨_, rfl⟩
  rw [← hK] at hidx
  haveI : PC Tryz.prog 45 [.p (.sl 2 (L.map pR) false), .p (.fnv 46 [.bx [.k .u64 B] 0])] True (.p (.i K)) := ⟨fun _ => by rw [hK]; exact indexFuncP_w _ _ inferInstance (geF B) L false (by omega) fun e => geP_w e B⟩
  clear hK hrot
  have hmax : (if K < 0 then 0 else K) = (i0 : Int) := by
    rcases hidx with ⟨h1, h2⟩ | h1
    · rw [if_pos (by omega)]; omega
    · rw [if_neg (by omega)]; exact h1
  have hl1 : (L.drop (i0 : Int).toNat).length ≤ 1000000 := by rw [List.length_drop]; omega
  have hl2 : (L.take (i0 : Int).toNat).length ≤ 1000000 := by rw [List.length_take]; omega
  have hl3 : (L.drop (i0 : Int).toNat ++ L.take (i0 : Int).toNat).length ≤ 1000 := by rw [List.length_append, List.length_drop, List.length_take]; omega
  rw [show L.drop i0 ++ L.take i0 = L.drop (i0 : Int).toNat ++ L.take (i0 : Int).toNat by rw [Int.toNat_natCast]]
  repeat' (first
      | refine rnC ?_
      | refine rnSB ?_
      | refine rnG ?_
      | refine rnU ?_
      | ((fail_if_success (refine rnKn ?_)); refine rnP ?_ ?_ <;> (intro hq; try (have hq' := hq; simp only [hqs] at hq')))
      | refine rkC ?_
      | refine rkSB ?_
      | refine rkF ?_
      | refine rkU ?_
      | ((fail_if_success (refine rkKn ?_)); refine rkP ?_ ?_ <;> (intro hq; try (have hq' := hq; simp only [hqs] at hq')))
      | refine stp ?_
      | refine ifT ?_
      | refine ifF ?_
      | (refine ifQ ?_ ?_ <;> (try (intro hn)))
      | (refine ifB ?_ ?_ <;> (intro hq; try (have hq' := hq; simp only [hqs] at hq'))))
  refine aws_draws [(7, 32)] mixed (by kernel_rfl) ?_
  repeat' (first
      | refine rk_nil ?_
      | refine rkC ?_
      | refine rkSB ?_
      | refine rkF ?_
      | refine rkU ?_
      | ((fail_if_success (refine rkKn ?_)); refine rkP ?_ ?_ <;> (intro hq; try (have hq' := hq; simp only [hqs] at hq'))))
  repeat' (first
      | refine rnC ?_
      | refine rnSB ?_
      | refine rnG ?_
      | refine rnU ?_
      | ((fail_if_success (refine rnKn ?_)); refine rnP ?_ ?_ <;> (intro hq; try (have hq' := hq; simp only [hqs] at hq')))
      | refine rkC ?_
      | refine rkSB ?_
      | refine rkF ?_
      | refine rkU ?_
      | ((fail_if_success (refine rkKn ?_)); refine rkP ?_ ?_ <;> (intro hq; try (have hq' := hq; simp only [hqs] at hq')))
      | refine stp ?_
      | refine ifT ?_
      | refine ifF ?_
      | (refine ifQ ?_ ?_ <;> (try (intro hn)))
      | (refine ifB ?_ ?_ <;> (intro hq; try (have hq' := hq; simp only [hqs] at hq'))))
  generalize L.drop (i0 : Int).toNat ++ L.take (i0 : Int).toNat = M at *
  refine aws_says (says_frz (t := 32) (o := 32) rfl rfl rfl (by simp)) ?_
  refine aws_says (says_nil (t := 9) (o := 901) (ty := 3) (es := 1) rfl rfl (by decide)) ?_
  refine aws_loopS [9, 11, 34, 35, 36, 37, 38, 39, 40, 41, 42, 43, 44, 45, 46, 47, 48, 49, 50, 51, 52, 53, 54, 55, 56, 57, 58] [11, 901] (fun (x : Nat × Nat × List Int × Nat × Option MO) => [(34, .p (.i x.1)), (9, .o (.osl 901 x.2.1 1 0 x.2.2.1.length))]) (fun x => [(11, x.2.2.2), (901, (x.2.1 + 1, some (.buf 3 1 (x.2.2.1.map iR))))])
    (fun x => x.1 ≤ M.length ∧ x.2.2.1 = (dl ((M.take x.1).map (·.2))).take r) (fun x => M.length - x.1) (0, 0, [], 0, none) ⟨Nat.zero_le _, by dsimp only; rw [List.take_zero]; exact (List.take_nil (i := r)).symm⟩ (by exact knA) (by exact knA) ?_
  rintro ⟨i, g, m, c11, o11⟩ β γ ⟨hi, hm⟩
  simp only at hi hm
  have hml : m.length ≤ 8 := by rw [hm, List.length_take]; omega
  dsimp only
  by_cases hil : i < M.length
  · have d1 : decide ((i : Int) < (M.length : Int)) = true := decide_eq_true (by omega)
    have ei : (i : Int).toNat = i := Int.toNat_natCast i
    have hst := take_step (r := r) ((M.take i).map (·.2)) (M.getD i default).2
    rw [show (M.take i).map (·.2) ++ [(M.getD i default).2] = (M.take (i + 1)).map (·.2) by rw [take_get' hil, List.map_append]; rfl, ← hm] at hst
    by_cases hr1 : (m.length : Int) < (r : Int)
    · have d2 : decide ((m.length : Int) < (r : Int)) = true := decide_eq_true hr1
      by_cases hx : (M.getD (i : Int).toNat default).2 ∈ m
      · have d3 : (!decide ((M.getD (i : Int).toNat default).2 ∈ m)) = false := by rw [decide_eq_true hx]; rfl
        rw [ei] at hx
        rw [if_neg (fun q => q.2 hx)] at hst
        as_aux_lemma =>
          repeat' (first
              | refine rnC ?_
              | refine rnSB ?_
              | refine rnG ?_
              | refine rnU ?_
              | ((fail_if_success (refine rnKn ?_)); refine rnP ?_ ?_ <;> (intro hq; try (have hq' := hq; simp only [hqs] at hq')))
              | refine rkC ?_
              | refine rkSB ?_
              | refine rkF ?_
              | refine rkU ?_
              | ((fail_if_success (refine rkKn ?_)); refine rkP ?_ ?_ <;> (intro hq; try (have hq' := hq; simp only [hqs] at hq')))
              | refine stp ?_
              | refine ifT ?_
              | refine ifF ?_
              | (refine ifQ ?_ ?_ <;> (try (intro hn)))
              | (refine ifB ?_ ?_ <;> (intro hq; try (have hq' := hq; simp only [hqs] at hq'))))
          exact ⟨(i + 1, g, m, _, _), _, by dsimp only; omega, ⟨by dsimp only; omega, hst.symm⟩, .refl, by exact frA⟩
      · have d3 : (!decide ((M.getD (i : Int).toNat default).2 ∈ m)) = true := by rw [decide_eq_false hx]; rfl
        rw [ei] at hx
        rw [if_pos ⟨by omega, hx⟩] at hst
        as_aux_lemma =>
          repeat' (first
              | refine rnC ?_
              | refine rnSB ?_
              | refine rnG ?_
              | refine rnU ?_
              | ((fail_if_success (refine rnKn ?_)); refine rnP ?_ ?_ <;> (intro hq; try (have hq' := hq; simp only [hqs] at hq')))
              | refine rkC ?_
              | refine rkSB ?_
              | refine rkF ?_
              | refine rkU ?_
              | ((fail_if_success (refine rkKn ?_)); refine rkP ?_ ?_ <;> (intro hq; try (have hq' := hq; simp only [hqs] at hq')))
              | refine stp ?_
              | refine ifT ?_
              | refine ifF ?_
              | (refine ifQ ?_ ?_ <;> (try (intro hn)))
              | (refine ifB ?_ ?_ <;> (intro hq; try (have hq' := hq; simp only [hqs] at hq'))))
          refine ⟨(i + 1, g + 1, m ++ [(M.getD (i : Int).toNat default).2], _, _), _, by dsimp only; omega, ⟨by dsimp only; omega, ?_⟩, .refl, by exact frA⟩
          dsimp only
          rw [hst, ei]
    · have d2 : decide ((m.length : Int) < (r : Int)) = false := decide_eq_false hr1
      rw [if_neg (show ¬ (m.length < r ∧ (M.getD i default).2 ∉ m) from fun q => by omega)] at hst
      as_aux_lemma =>
        repeat' (first
            | refine rnC ?_
            | refine rnSB ?_
            | refine rnG ?_
            | refine rnU ?_
            | ((fail_if_success (refine rnKn ?_)); refine rnP ?_ ?_ <;> (intro hq; try (have hq' := hq; simp only [hqs] at hq')))
            | refine rkC ?_
            | refine rkSB ?_
            | refine rkF ?_
            | refine rkU ?_
            | ((fail_if_success (refine rkKn ?_)); refine rkP ?_ ?_ <;> (intro hq; try (have hq' := hq; simp only [hqs] at hq')))
            | refine stp ?_
            | refine ifT ?_
            | refine ifF ?_
            | (refine ifQ ?_ ?_ <;> (try (intro hn)))
            | (refine ifB ?_ ?_ <;> (intro hq; try (have hq' := hq; simp only [hqs] at hq'))))
        exact ⟨(i + 1, g, m, _, _), _, by dsimp only; omega, ⟨by dsimp only; omega, hst.symm⟩, .refl, by exact frA⟩
  · have d1 : decide ((i : Int) < (M.length : Int)) = false := decide_eq_false (by omega)
    rw [show M.take i = M from List.take_of_length_le (by omega)] at hm
    rw [← hm]
    as_aux_lemma =>
      repeat' (first
          | refine rnC ?_
          | refine rnSB ?_
          | refine rnG ?_
          | refine rnU ?_
          | ((fail_if_success (refine rnKn ?_)); refine rnP ?_ ?_ <;> (intro hq; try (have hq' := hq; simp only [hqs] at hq')))
          | refine rkC ?_
          | refine rkSB ?_
          | refine rkF ?_
          | refine rkU ?_
          | ((fail_if_success (refine rkKn ?_)); refine rkP ?_ ?_ <;> (intro hq; try (have hq' := hq; simp only [hqs] at hq')))
          | refine stp ?_
          | refine ifT ?_
          | refine ifF ?_
          | (refine ifQ ?_ ?_ <;> (try (intro hn)))
          | (refine ifB ?_ ?_ <;> (intro hq; try (have hq' := hq; simp only [hqs] at hq'))))
      exact RetO.mk (ot1 rfl rfl (.one (finC_map rfl rfl rfl rfl)) rfl) ⟨finM_box rfl finL_p, trivial⟩
instance listB_i {c g m n v r : Nat} {d : Bool} {part : Int} : OC Tryz.prog 27 [.o (.ptr c g 0), .p (.i part)] [(c, (m, some (ringB d n v r)))] [] (m = g + 1 ∧ n ≤ 8 ∧ v ≤ 16 ∧ r ≤ 8 ∧ 0 ≤ part ∧ part < 8) (.p (.sl 1 ((lstF n v r part).map iR) false)) [(c, (m, some (ringB true n v r)))] := ⟨fun h => by
  obtain ⟨rfl, h1, h2, h3, h4⟩ := h
  have := (listInB_o g n v r d part h1 h2 h3 h4).one c
  rw [ringB_ren, Option.map_some, ringB_ren] at this
  exact this⟩
theorem holdsB_o (q n v r : Nat) (d : Bool) (node part : Int) (hn : n ≤ 8) (hv : v ≤ 16) (hr : r ≤ 8) (hp : 0 ≤ part ∧ part < 8) : OCall Tryz.prog 25 [.o (.ptr 1000 q 0), .p (.i node), .p (.i part)] (memL [(1000, (q + 1, some (ringB d n v r)))]) (.p (.b (decide (node ∈ lstF n v r part)))) (memL [(1000, (q + 1, some (ringB true n v r)))]) := by
  refine ocall_of1 Tryz.func25 rfl (fun w0 F S0 M0 => ?_)
  obtain ⟨hp0, hp8⟩ := hp
  have hl : (lstF n v r part).length ≤ 1000 := Nat.le_trans (lstF_len n v r part) (by omega)
  as_aux_lemma =>
    repeat' (first
        | refine rnC ?_
        | refine rnSB ?_
        | refine rnG ?_
        | refine rnU ?_
        | ((fail_if_success (refine rnKn ?_)); refine rnP ?_ ?_ <;> (intro hq; try (have hq' := hq; simp only [hqs] at hq')))
        | refine rkC ?_
        | refine rkSB ?_
        | refine rkF ?_
        | refine rkU ?_
        | ((fail_if_success (refine rkKn ?_)); refine rkP ?_ ?_ <;> (intro hq; try (have hq' := hq; simp only [hqs] at hq')))
        | refine stp ?_
        | refine ifT ?_
        | refine ifF ?_
        | (refine ifQ ?_ ?_ <;> (try (intro hn)))
        | (refine ifB ?_ ?_ <;> (intro hq; try (have hq' := hq; simp only [hqs] at hq'))))
    exact RetO.mk (ot1 rfl rfl finS_p rfl) ⟨finM_box rfl finL_p, trivial⟩
instance holdsB_i {c g m n v r : Nat} {d : Bool} {node part : Int} : OC Tryz.prog 25 [.o (.ptr c g 0), .p (.i node), .p (.i part)] [(c, (m, some (ringB d n v r)))] [] (m = g + 1 ∧ n ≤ 8 ∧ v ≤ 16 ∧ r ≤ 8 ∧ 0 ≤ part ∧ part < 8) (.p (.b (decide (node ∈ lstF n v r part)))) [(c, (m, some (ringB true n v r)))] := ⟨fun h => by
  obtain ⟨rfl, h1, h2, h3, h4⟩ := h
  have := (holdsB_o g n v r d node part h1 h2 h3 h4).one c
  rw [ringB_ren, Option.map_some, ringB_ren] at this
  exact this⟩
/-- the parts of a node, as a slice of one's own; the ring was asked -/
theorem partsB_o (q n v r : Nat) (d : Bool) (node : Int) (hn : n ≤ 8) (hv : v ≤ 16) (hr : r ≤ 8) : OCall Tryz.prog 29 [.o (.ptr 1000 q 0), .p (.i node)] (memL [(1000, (q + 1, some (ringB d n v r)))]) (.o (.osl 901 (partsTo n v r node 8).length 1 0 (partsTo n v r node 8).length)) (memL [(1000, (q + 1, some (ringB true n v r))), (901, ((partsTo n v r node 8).length + 1, some (.buf 3 1 ((partsTo n v r node 8).map iR))))]) := by
  refine ocall_of2 901 Tryz.func29 rfl (fun w0 F S0 M0 => ?_)
  repeat' (first
      | refine rnC ?_
      | refine rnSB ?_
      | refine rnG ?_
      | refine rnU ?_
      | ((fail_if_success (refine rnKn ?_)); refine rnP ?_ ?_ <;> (intro hq; try (have hq' := hq; simp only [hqs] at hq')))
      | refine rkC ?_
      | refine rkSB ?_
      | refine rkF ?_
      | refine rkU ?_
      | ((fail_if_success (refine rkKn ?_)); refine rkP ?_ ?_ <;> (intro hq; try (have hq' := hq; simp only [hqs] at hq')))
      | refine stp ?_
      | refine ifT ?_
      | refine ifF ?_
      | (refine ifQ ?_ ?_ <;> (try (intro hn)))
      | (refine ifB ?_ ?_ <;> (intro hq; try (have hq' := hq; simp only [hqs] at hq'))))
  refine aws_says (says_nil (t := 5) (o := 901) (ty := 3) (es := 1) rfl rfl (by decide)) ?_
  refine aws_loopS [5, 6, 7, 8, 9, 10, 11, 12, 13, 14, 15, 16, 17, 18] [1000, 901] (fun (x : Nat × Nat × List Int × Bool) => [(7, .p (.i x.1)), (5, .o (.osl 901 x.2.1 1 0 x.2.2.1.length))]) (fun x => [(1000, (q + 1, some (ringB x.2.2.2 n v r))), (901, (x.2.1 + 1, some (.buf 3 1 (x.2.2.1.map iR))))])
    (fun x => x.1 ≤ 8 ∧ x.2.2.1 = partsTo n v r node x.1 ∧ x.2.1 = x.2.2.1.length ∧ (0 < x.1 → x.2.2.2 = true)) (fun x => 8 - x.1) (0, 0, [], d) ⟨Nat.zero_le _, rfl, rfl, fun q => absurd q (Nat.lt_irrefl 0)⟩ (by exact knA) (by exact knA) ?_
  rintro ⟨i, g, m, d⟩ β γ ⟨hi, hm, hg, hd⟩
  simp only at hi hm hg hd
  have hml : m.length ≤ 8 := by rw [hm]; exact Nat.le_trans (partsTo_len _ _ _ _ _) hi
  dsimp only
  by_cases hil : i < 8
  · have d1 : decide ((i : Int) < 8) = true := decide_eq_true (by omega)
    by_cases hx : node ∈ lstF n v r i
    · have d2 : decide (node ∈ lstF n v r i) = true := decide_eq_true hx
      as_aux_lemma =>
        repeat' (first
            | refine rnC ?_
            | refine rnSB ?_
            | refine rnG ?_
            | refine rnU ?_
            | ((fail_if_success (refine rnKn ?_)); refine rnP ?_ ?_ <;> (intro hq; try (have hq' := hq; simp only [hqs] at hq')))
            | refine rkC ?_
            | refine rkSB ?_
            | refine rkF ?_
            | refine rkU ?_
            | ((fail_if_success (refine rkKn ?_)); refine rkP ?_ ?_ <;> (intro hq; try (have hq' := hq; simp only [hqs] at hq')))
            | refine stp ?_
            | refine ifT ?_
            | refine ifF ?_
            | (refine ifQ ?_ ?_ <;> (try (intro hn)))
            | (refine ifB ?_ ?_ <;> (intro hq; try (have hq' := hq; simp only [hqs] at hq'))))
        refine ⟨(i + 1, g + 1, m ++ [(i : Int)], true), _, by dsimp only; omega, ⟨by dsimp only; omega, ?_, by dsimp only; rw [List.length_append, hg]; rfl, fun _ => rfl⟩, .refl, by exact frA⟩
        dsimp only
        rw [partsTo, if_pos hx, hm]
    · have d2 : decide (node ∈ lstF n v r i) = false := decide_eq_false hx
      as_aux_lemma =>
        repeat' (first
            | refine rnC ?_
            | refine rnSB ?_
            | refine rnG ?_
            | refine rnU ?_
            | ((fail_if_success (refine rnKn ?_)); refine rnP ?_ ?_ <;> (intro hq; try (have hq' := hq; simp only [hqs] at hq')))
            | refine rkC ?_
            | refine rkSB ?_
            | refine rkF ?_
            | refine rkU ?_
            | ((fail_if_success (refine rkKn ?_)); refine rkP ?_ ?_ <;> (intro hq; try (have hq' := hq; simp only [hqs] at hq')))
            | refine stp ?_
            | refine ifT ?_
            | refine ifF ?_
            | (refine ifQ ?_ ?_ <;> (try (intro hn)))
            | (refine ifB ?_ ?_ <;> (intro hq; try (have hq' := hq; simp only [hqs] at hq'))))
        refine ⟨(i + 1, g, m, true), _, by dsimp only; omega, ⟨by dsimp only; omega, ?_, hg, fun _ => rfl⟩, .refl, by exact frA⟩
        dsimp only
        rw [partsTo, if_neg hx, hm]
  · have d1 : decide ((i : Int) < 8) = false := decide_eq_false (by omega)
    obtain rfl : i = 8 := by omega
    obtain rfl := hd (by decide)
    rw [← hm]
    subst hg
    as_aux_lemma =>
      repeat' (first
          | refine rnC ?_
          | refine rnSB ?_
          | refine rnG ?_
          | refine rnU ?_
          | ((fail_if_success (refine rnKn ?_)); refine rnP ?_ ?_ <;> (intro hq; try (have hq' := hq; simp only [hqs] at hq')))
          | refine rkC ?_
          | refine rkSB ?_
          | refine rkF ?_
          | refine rkU ?_
          | ((fail_if_success (refine rkKn ?_)); refine rkP ?_ ?_ <;> (intro hq; try (have hq' := hq; simp only [hqs] at hq')))
          | refine stp ?_
          | refine ifT ?_
          | refine ifF ?_
          | (refine ifQ ?_ ?_ <;> (try (intro hn)))
          | (refine ifB ?_ ?_ <;> (intro hq; try (have hq' := hq; simp only [hqs] at hq'))))
      exact RetO.mk (ot1 rfl rfl (.one (.kosl rfl)) rfl) ⟨finM_box rfl finL_p, .buf, trivial⟩
theorem partsB_at {n v r : Nat} {d : Bool} {node : Int} (hn : n ≤ 8) (hv : v ≤ 16) (hr : r ≤ 8) (c g e k : Nat) (hce : c ≠ e) : OCAt Tryz.prog 29 [.o (.ptr c g 0), .p (.i node)] [(c, (g + 1, some (ringB d n v r)))] [(e, k)] (.o (.osl e (k + (partsTo n v r node 8).length) 1 0 (partsTo n v r node 8).length)) [(c, (g + 1, some (ringB true n v r))), (e, (k + ((partsTo n v r node 8).length + 1), some (.buf 3 1 ((partsTo n v r node 8).map iR))))] := by
  have := (partsB_o g n v r d node hn hv hr).lf (by decide) c e k hce
  rw [ringB_ren, Option.map_some, ringB_ren] at this
  exact this
end
end Go.Proofs.YthhlcdacmlnjdaaGreat.Rg
namespace Go.Proofs.YthhlcdacmlnjdaaGreat.Rg
open Go Go.RowKit Go.Aw Go.Aw.Cart Go.Aw.Ord Go.Sort Go.Proofs.YthhlcdacmlnjdaaGreat.Ca
set_option linter.unusedVariables false
set_option linter.unusedSimpArgs false
set_option maxRecDepth 8000
set_option maxHeartbeats 4000000
open PB
theorem listInO_o (q n v r : Nat) (part : Int) (hn : n ≤ 8) (hv : v ≤ 16) (hr : r ≤ 8) (hp : 0 ≤ part ∧ part < 8) : OCall Tryz.prog 27 [.o (.ptr 1000 q 0), .p (.i part)] (memL [(1000, (q + 1, some (ringM n v r)))]) (.o (.osl 901 (lstF n v r part).length 1 0 (lstF n v r part).length)) (memL [(1000, (q + 1, some (ringM n v r))), (901, ((lstF n v r part).length + 1, some (.buf 3 1 ((lstF n v r part).map iR))))]) := by
  refine ocall_of2 901 Tryz.func27 rfl (fun w0 F S0 M0 => ?_)
  unfold lstF
  rw [if_pos hp]
  obtain ⟨B, hB⟩ : ∃ B, B = 2305843009213693952 * part := ⟨_, rfl⟩
  rw [← hB]
  haveI : PC Tryz.prog 43 [.p (.i part)] True (.tup [.one (.p (.k .u64 B)), .one (.p (.i 0))]) := ⟨fun _ => by have := base_w part; rwa [if_pos hp, if_pos hp, ← hB] at this⟩
  have hl : (pts n v).length ≤ 128 := by rw [pts_len]; exact Nat.mul_le_mul hn hv
  haveI : ∀ c g m : Nat, OC Tryz.prog 44 [.o (.ptr c g 0)] [(c, (m, some (ringM n v r)))] [] (m = g + 1) (.p (.sl 2 ((pts n v).map pR) false)) [(c, (m, some (ringM n v r)))] := fun c g m => ⟨fun h => points_i.call ⟨h, hn, hv⟩⟩
  unfold listF
  obtain ⟨i0, hi0, hidx, hrot⟩ := rot_is (B := B) (show upI ltD (pts n v) from sortD_up _)
  rw [← hrot]
  generalize pts n v = L at *
  obtain ⟨K, hK⟩ : ∃ K, K = idxP (geF B) L 0 L.length := ⟨_, rfl⟩
  rw [← hK] at hidx
  haveI : PC Tryz.prog 45 [.p (.sl 2 (L.map pR) false), .p (.fnv 46 [.bx [.k .u64 B] 0])] True (.p (.i K)) := ⟨fun _ => by rw [hK]; exact indexFuncP_w _ _ inferInstance (geF B) L false (by omega) fun e => geP_w e B⟩
  clear hK hrot
  have hmax : (if K < 0 then 0 else K) = (i0 : Int) := by
    rcases hidx with ⟨h1, h2⟩ | h1
    · rw [if_pos (by omega)]; omega
    · rw [if_neg (by omega)]; exact h1
  have hl1 : (L.drop (i0 : Int).toNat).length ≤ 1000000 := by rw [List.length_drop]; omega
  have hl2 : (L.take (i0 : Int).toNat).length ≤ 1000000 := by rw [List.length_take]; omega
  have hl3 : (L.drop (i0 : Int).toNat ++ L.take (i0 : Int).toNat).length ≤ 1000 := by rw [List.length_append, List.length_drop, List.length_take]; omega
  rw [show L.drop i0 ++ L.take i0 = L.drop (i0 : Int).toNat ++ L.take (i0 : Int).toNat by rw [Int.toNat_natCast]]
  repeat' (first
      | refine rnC ?_
      | refine rnSB ?_
      | refine rnG ?_
      | refine rnU ?_
      | ((fail_if_success (refine rnKn ?_)); refine rnP ?_ ?_ <;> (intro hq; try (have hq' := hq; simp only [hqs] at hq')))
      | refine rkC ?_
      | refine rkSB ?_
      | refine rkF ?_
      | refine rkU ?_
      | ((fail_if_success (refine rkKn ?_)); refine rkP ?_ ?_ <;> (intro hq; try (have hq' := hq; simp only [hqs] at hq')))
      | refine stp ?_
      | refine ifT ?_
      | refine ifF ?_
      | (refine ifQ ?_ ?_ <;> (try (intro hn)))
      | (refine ifB ?_ ?_ <;> (intro hq; try (have hq' := hq; simp only [hqs] at hq'))))
  refine aws_draws [(7, 32)] mixed (by kernel_rfl) ?_
  repeat' (first
      | refine rk_nil ?_
      | refine rkC ?_
      | refine rkSB ?_
      | refine rkF ?_
      | refine rkU ?_
      | ((fail_if_success (refine rkKn ?_)); refine rkP ?_ ?_ <;> (intro hq; try (have hq' := hq; simp only [hqs] at hq'))))
  repeat' (first
      | refine rnC ?_
      | refine rnSB ?_
      | refine rnG ?_
      | refine rnU ?_
      | ((fail_if_success (refine rnKn ?_)); refine rnP ?_ ?_ <;> (intro hq; try (have hq' := hq; simp only [hqs] at hq')))
      | refine rkC ?_
      | refine rkSB ?_
      | refine rkF ?_
      | refine rkU ?_
      | ((fail_if_success (refine rkKn ?_)); refine rkP ?_ ?_ <;> (intro hq; try (have hq' := hq; simp only [hqs] at hq')))
      | refine stp ?_
      | refine ifT ?_
      | refine ifF ?_
      | (refine ifQ ?_ ?_ <;> (try (intro hn)))
      | (refine ifB ?_ ?_ <;> (intro hq; try (have hq' := hq; simp only [hqs] at hq'))))
  generalize L.drop (i0 : Int).toNat ++ L.take (i0 : Int).toNat = M at *
  refine aws_or (o := 1000) rfl fun d => ?_
  refine aws_says (says_frz (t := 32) (o := 32) rfl rfl rfl (by simp)) ?_
  refine aws_says (says_nil (t := 9) (o := 901) (ty := 3) (es := 1) rfl rfl (by decide)) ?_
  refine aws_loopS [9, 11, 34, 35, 36, 37, 38, 39, 40, 41, 42, 43, 44, 45, 46, 47, 48, 49, 50, 51, 52, 53, 54, 55, 56, 57, 58] [11, 901] (fun (x : Nat × Nat × List Int × Nat × Option MO) => [(34, .p (.i x.1)), (9, .o (.osl 901 x.2.1 1 0 x.2.2.1.length))]) (fun x => [(11, x.2.2.2), (901, (x.2.1 + 1, some (.buf 3 1 (x.2.2.1.map iR))))])
    (fun x => (x.1 ≤ M.length ∧ x.2.1 = x.2.2.1.length) ∧ x.2.2.1 = (dl ((M.take x.1).map (·.2))).take r) (fun x => M.length - x.1) (0, 0, [], 0, none) ⟨⟨Nat.zero_le _, rfl⟩, by dsimp only; rw [List.take_zero]; exact (List.take_nil (i := r)).symm⟩ (by exact knA) (by exact knA) ?_
  rintro ⟨i, g, m, c11, o11⟩ β γ ⟨⟨hi, hg⟩, hm⟩
  simp only at hi hg hm
  have hml : m.length ≤ 8 := by rw [hm, List.length_take]; omega
  dsimp only
  by_cases hil : i < M.length
  · have d1 : decide ((i : Int) < (M.length : Int)) = true := decide_eq_true (by omega)
    have ei : (i : Int).toNat = i := Int.toNat_natCast i
    have hst := take_step (r := r) ((M.take i).map (·.2)) (M.getD i default).2
    rw [show (M.take i).map (·.2) ++ [(M.getD i default).2] = (M.take (i + 1)).map (·.2) by rw [take_get' hil, List.map_append]; rfl, ← hm] at hst
    by_cases hr1 : (m.length : Int) < (r : Int)
    · have d2 : decide ((m.length : Int) < (r : Int)) = true := decide_eq_true hr1
      by_cases hx : (M.getD (i : Int).toNat default).2 ∈ m
      · have d3 : (!decide ((M.getD (i : Int).toNat default).2 ∈ m)) = false := by rw [decide_eq_true hx]; rfl
        rw [ei] at hx
        rw [if_neg (fun q => q.2 hx)] at hst
        as_aux_lemma =>
          repeat' (first
              | refine rnC ?_
              | refine rnSB ?_
              | refine rnG ?_
              | refine rnU ?_
              | ((fail_if_success (refine rnKn ?_)); refine rnP ?_ ?_ <;> (intro hq; try (have hq' := hq; simp only [hqs] at hq')))
              | refine rkC ?_
              | refine rkSB ?_
              | refine rkF ?_
              | refine rkU ?_
              | ((fail_if_success (refine rkKn ?_)); refine rkP ?_ ?_ <;> (intro hq; try (have hq' := hq; simp only [hqs] at hq')))
              | refine stp ?_
              | refine ifT ?_
              | refine ifF ?_
              | (refine ifQ ?_ ?_ <;> (try (intro hn)))
              | (refine ifB ?_ ?_ <;> (intro hq; try (have hq' := hq; simp only [hqs] at hq'))))
          exact ⟨(i + 1, g, m, _, _), _, by dsimp only; omega, ⟨⟨by dsimp only; omega, hg⟩, hst.symm⟩, .refl, by exact frA⟩
      · have d3 : (!decide ((M.getD (i : Int).toNat default).2 ∈ m)) = true := by rw [decide_eq_false hx]; rfl
        rw [ei] at hx
        rw [if_pos ⟨by omega, hx⟩] at hst
        as_aux_lemma =>
          repeat' (first
              | refine rnC ?_
              | refine rnSB ?_
              | refine rnG ?_
              | refine rnU ?_
              | ((fail_if_success (refine rnKn ?_)); refine rnP ?_ ?_ <;> (intro hq; try (have hq' := hq; simp only [hqs] at hq')))
              | refine rkC ?_
              | refine rkSB ?_
              | refine rkF ?_
              | refine rkU ?_
              | ((fail_if_success (refine rkKn ?_)); refine rkP ?_ ?_ <;> (intro hq; try (have hq' := hq; simp only [hqs] at hq')))
              | refine stp ?_
              | refine ifT ?_
              | refine ifF ?_
              | (refine ifQ ?_ ?_ <;> (try (intro hn)))
              | (refine ifB ?_ ?_ <;> (intro hq; try (have hq' := hq; simp only [hqs] at hq'))))
          refine ⟨(i + 1, g + 1, m ++ [(M.getD (i : Int).toNat default).2], _, _), _, by dsimp only; omega, ⟨⟨by dsimp only; omega, by dsimp only; rw [List.length_append, hg]; rfl⟩, ?_⟩, .refl, by exact frA⟩
          dsimp only
          rw [hst, ei]
    · have d2 : decide ((m.length : Int) < (r : Int)) = false := decide_eq_false hr1
      rw [if_neg (show ¬ (m.length < r ∧ (M.getD i default).2 ∉ m) from fun q => by omega)] at hst
      as_aux_lemma =>
        repeat' (first
            | refine rnC ?_
            | refine rnSB ?_
            | refine rnG ?_
            | refine rnU ?_
            | ((fail_if_success (refine rnKn ?_)); refine rnP ?_ ?_ <;> (intro hq; try (have hq' := hq; simp only [hqs] at hq')))
            | refine rkC ?_
            | refine rkSB ?_
            | refine rkF ?_
            | refine rkU ?_
            | ((fail_if_success (refine rkKn ?_)); refine rkP ?_ ?_ <;> (intro hq; try (have hq' := hq; simp only [hqs] at hq')))
            | refine stp ?_
            | refine ifT ?_
            | refine ifF ?_
            | (refine ifQ ?_ ?_ <;> (try (intro hn)))
            | (refine ifB ?_ ?_ <;> (intro hq; try (have hq' := hq; simp only [hqs] at hq'))))
        exact ⟨(i + 1, g, m, _, _), _, by dsimp only; omega, ⟨⟨by dsimp only; omega, hg⟩, hst.symm⟩, .refl, by exact frA⟩
  · have d1 : decide ((i : Int) < (M.length : Int)) = false := decide_eq_false (by omega)
    rw [show M.take i = M from List.take_of_length_le (by omega)] at hm
    rw [← hm]
    subst hg
    repeat' (first
        | refine rnC ?_
        | refine rnSB ?_
        | refine rnG ?_
        | refine rnU ?_
        | ((fail_if_success (refine rnKn ?_)); refine rnP ?_ ?_ <;> (intro hq; try (have hq' := hq; simp only [hqs] at hq')))
        | refine rkC ?_
        | refine rkSB ?_
        | refine rkF ?_
        | refine rkU ?_
        | ((fail_if_success (refine rkKn ?_)); refine rkP ?_ ?_ <;> (intro hq; try (have hq' := hq; simp only [hqs] at hq')))
        | refine stpR ?_
        | refine ifT ?_
        | refine ifF ?_
        | (refine ifQ ?_ ?_ <;> (try (intro hn)))
        | (refine ifB ?_ ?_ <;> (intro hq; try (have hq' := hq; simp only [hqs] at hq'))))
    refine aws_says (says_or (o := 1000) (ty := 71) (fun d => ringP d n v r) d rfl) ?_
    as_aux_lemma =>
      repeat' (first
          | refine rnC ?_
          | refine rnSB ?_
          | refine rnG ?_
          | refine rnU ?_
          | ((fail_if_success (refine rnKn ?_)); refine rnP ?_ ?_ <;> (intro hq; try (have hq' := hq; simp only [hqs] at hq')))
          | refine rkC ?_
          | refine rkSB ?_
          | refine rkF ?_
          | refine rkU ?_
          | ((fail_if_success (refine rkKn ?_)); refine rkP ?_ ?_ <;> (intro hq; try (have hq' := hq; simp only [hqs] at hq')))
          | refine stp ?_
          | refine ifT ?_
          | refine ifF ?_
          | (refine ifQ ?_ ?_ <;> (try (intro hn)))
          | (refine ifB ?_ ?_ <;> (intro hq; try (have hq' := hq; simp only [hqs] at hq'))))
      exact RetO.mk (ot1 rfl rfl (.one (.kosl rfl)) rfl) ⟨.abs, .buf, trivial⟩
theorem listO_at {n v r : Nat} {part : Int} (hn : n ≤ 8) (hv : v ≤ 16) (hr : r ≤ 8) (hp : 0 ≤ part ∧ part < 8) (c g e : Nat) (hce : c ≠ e) : OCAt Tryz.prog 27 [.o (.ptr c g 0), .p (.i part)] [(c, (g + 1, some (ringM n v r)))] [(e, 0)] (.o (.osl e (lstF n v r part).length 1 0 (lstF n v r part).length)) [(c, (g + 1, some (ringM n v r))), (e, ((lstF n v r part).length + 1, some (.buf 3 1 ((lstF n v r part).map iR))))] := by
  have : OCAt Tryz.prog 27 [.o (.ptr c g 0), .p (.i part)] [(c, (g + 1, some (ringM n v r)))] [(e, 0)] (.o (.osl e (0 + (lstF n v r part).length) 1 0 (lstF n v r part).length)) [(c, (g + 1, some (ringM n v r))), (e, (0 + ((lstF n v r part).length + 1), some (.buf 3 1 ((lstF n v r part).map iR))))] := (listInO_o g n v r part hn hv hr hp).lf (by decide) c e 0 hce
  simpa only [Nat.zero_add] using this
attribute [-instance] list_i in
theorem rListO_o (q n v r : Nat) (k : List Nat) (hn : n ≤ 8) (hv : v ≤ 16) (hr : r ≤ 8) (hk : okB k) (hl : k.length ≤ 1000000) : OCall Tryz.prog 13 [.o (.ptr 1000 q 0), strV k] (memL [(1000, (q + 1, some (ringM n v r)))]) (.o (.osl 11 (rtL n v r k).length 1 0 (rtL n v r k).length)) (memL [(1000, (q + 1, some (ringM n v r))), (11, ((rtL n v r k).length + 1, some (.buf 3 1 ((rtL n v r k).map iR))))]) := by
  refine ocall_of2 11 Tryz.func13 rfl (fun w0 F S0 M0 => ?_)
  unfold rtL
  cases hq : keyR k with
  | false =>
    haveI : PC Tryz.prog 24 [strV k] True (.p (.b false)) := ⟨fun _ => by have := keyRight_w k hk hl; rwa [hq] at this⟩
    rw [if_neg (by simp)]
    repeat' (first
        | refine rnC ?_
        | refine rnSB ?_
        | refine rnG ?_
        | refine rnU ?_
        | ((fail_if_success (refine rnKn ?_)); refine rnP ?_ ?_ <;> (intro hq; try (have hq' := hq; simp only [hqs] at hq')))
        | refine rkC ?_
        | refine rkSB ?_
        | refine rkF ?_
        | refine rkU ?_
        | ((fail_if_success (refine rkKn ?_)); refine rkP ?_ ?_ <;> (intro hq; try (have hq' := hq; simp only [hqs] at hq')))
        | refine stpR ?_
        | refine aws_draws [] mixed (by kernel_rfl) ?_
        | refine ifT ?_
        | refine ifF ?_
        | (refine ifQ ?_ ?_ <;> (try (intro hn)))
        | (refine ifB ?_ ?_ <;> (intro hq; try (have hq' := hq; simp only [hqs] at hq'))))
    refine aws_says (says_nil (t := 4) (o := 11) (ty := 3) (es := 1) rfl rfl (by decide)) ?_
    as_aux_lemma =>
      repeat' (first
          | refine rnC ?_
          | refine rnSB ?_
          | refine rnG ?_
          | refine rnU ?_
          | ((fail_if_success (refine rnKn ?_)); refine rnP ?_ ?_ <;> (intro hq; try (have hq' := hq; simp only [hqs] at hq')))
          | refine rkC ?_
          | refine rkSB ?_
          | refine rkF ?_
          | refine rkU ?_
          | ((fail_if_success (refine rkKn ?_)); refine rkP ?_ ?_ <;> (intro hq; try (have hq' := hq; simp only [hqs] at hq')))
          | refine stp ?_
          | refine aws_draws [] mixed (by kernel_rfl) ?_
          | refine ifT ?_
          | refine ifF ?_
          | (refine ifQ ?_ ?_ <;> (try (intro hn)))
          | (refine ifB ?_ ?_ <;> (intro hq; try (have hq' := hq; simp only [hqs] at hq'))))
      exact RetO.mk (ot1 rfl rfl (.one (.kosl rfl)) rfl) ⟨.abs, .buf, trivial⟩
  | true =>
    haveI : PC Tryz.prog 24 [strV k] True (.p (.b true)) := ⟨fun _ => by have := keyRight_w k hk hl; rwa [hq] at this⟩
    haveI : PC Tryz.prog 28 [strV k] True (.p (.i (partF k : Int))) := ⟨fun _ => keyPart_w k hk hl⟩
    have hp := part_lt k
    rw [if_pos rfl]
    repeat' (first
        | refine rnC ?_
        | refine rnSB ?_
        | refine rnG ?_
        | refine rnU ?_
        | ((fail_if_success (refine rnKn ?_)); refine rnP ?_ ?_ <;> (intro hq; try (have hq' := hq; simp only [hqs] at hq')))
        | refine rkC ?_
        | refine rkSB ?_
        | refine rkF ?_
        | refine rkU ?_
        | ((fail_if_success (refine rkKn ?_)); refine rkP ?_ ?_ <;> (intro hq; try (have hq' := hq; simp only [hqs] at hq')))
        | refine stp ?_
        | refine aws_draws [] mixed (by kernel_rfl) ?_
        | refine ifT ?_
        | refine ifF ?_
        | (refine ifQ ?_ ?_ <;> (try (intro hn)))
        | (refine ifB ?_ ?_ <;> (intro hq; try (have hq' := hq; simp only [hqs] at hq'))))
    refine rn_any (gd_n rfl rfl) rfl (lop_ocall rfl inferInstance (.cons rfl (.cons rfl .nil)) (listO_at (n := n) (v := v) (r := r) (part := partF k) hn hv hr ⟨by omega, by omega⟩ 1000 q 11 (by decide)) (fun p hp => by simp at hp; subst hp; rfl) (fun p hp => by simp at hp; subst hp; rfl) (fun p hp => by simp at hp; subst hp; rfl) (fun p hp => by simp at hp; subst hp; rfl) rfl) ?_
    as_aux_lemma =>
      repeat' (first
          | refine rnC ?_
          | refine rnSB ?_
          | refine rnG ?_
          | refine rnU ?_
          | ((fail_if_success (refine rnKn ?_)); refine rnP ?_ ?_ <;> (intro hq; try (have hq' := hq; simp only [hqs] at hq')))
          | refine rkC ?_
          | refine rkSB ?_
          | refine rkF ?_
          | refine rkU ?_
          | ((fail_if_success (refine rkKn ?_)); refine rkP ?_ ?_ <;> (intro hq; try (have hq' := hq; simp only [hqs] at hq')))
          | refine stp ?_
          | refine aws_draws [] mixed (by kernel_rfl) ?_
          | refine ifT ?_
          | refine ifF ?_
          | (refine ifQ ?_ ?_ <;> (try (intro hn)))
          | (refine ifB ?_ ?_ <;> (intro hq; try (have hq' := hq; simp only [hqs] at hq'))))
      exact RetO.mk (ot1 rfl rfl (.one (.kosl rfl)) rfl) ⟨.abs, .buf, trivial⟩
theorem rListO_at {n v r : Nat} {k : List Nat} (hn : n ≤ 8) (hv : v ≤ 16) (hr : r ≤ 8) (hk : okB k) (hl : k.length ≤ 1000000) (c g e : Nat) (hce : c ≠ e) : OCAt Tryz.prog 13 [.o (.ptr c g 0), strV k] [(c, (g + 1, some (ringM n v r)))] [(e, 0)] (.o (.osl e (rtL n v r k).length 1 0 (rtL n v r k).length)) [(c, (g + 1, some (ringM n v r))), (e, ((rtL n v r k).length + 1, some (.buf 3 1 ((rtL n v r k).map iR))))] := by
  have : OCAt Tryz.prog 13 [.o (.ptr c g 0), strV k] [(c, (g + 1, some (ringM n v r)))] [(e, 0)] (.o (.osl e (0 + (rtL n v r k).length) 1 0 (rtL n v r k).length)) [(c, (g + 1, some (ringM n v r))), (e, (0 + ((rtL n v r k).length + 1), some (.buf 3 1 ((rtL n v r k).map iR))))] := (rListO_o g n v r k hn hv hr hk hl).lf (by decide) c e 0 hce
  simpa only [Nat.zero_add] using this
/-! Others -/
theorem others1_w (e node : Int) : PCall Tryz.prog 39 ([AV.p (PVal.i e)] ++ [PVal.bx [.i node] 0].map .p) (.p (.b (decide (e = node)))) := by
  refine pcall_of Tryz.func39 rfl (fun w0 F S0 M0 => ?_)
  as_aux_lemma =>
    repeat' (first
        | refine rnC ?_
        | refine rnSB ?_
        | refine rnG ?_
        | refine rnU ?_
        | ((fail_if_success (refine rnKn ?_)); refine rnP ?_ ?_ <;> (intro hq; try (have hq' := hq; simp only [hqs] at hq')))
        | refine rkC ?_
        | refine rkSB ?_
        | refine rkF ?_
        | refine rkU ?_
        | ((fail_if_success (refine rkKn ?_)); refine rkP ?_ ?_ <;> (intro hq; try (have hq' := hq; simp only [hqs] at hq')))
        | refine stp ?_
        | refine ifT ?_
        | refine ifF ?_
        | (refine ifQ ?_ ?_ <;> (try (intro hn)))
        | (refine ifB ?_ ?_ <;> (intro hq; try (have hq' := hq; simp only [hqs] at hq'))))
    exact rt1 rfl rfl finS_p rfl
attribute [-instance] rList_i in
theorem others_o (q n v r : Nat) (k : List Nat) (node : Int) (hn : n ≤ 8) (hv : v ≤ 16) (hr : r ≤ 8) (hk : okB k) (hl : k.length ≤ 1000000) : OCall Tryz.prog 17 [.o (.ptr 1000 q 0), strV k, .p (.i node)] (memL [(1000, (q + 1, some (ringM n v r)))]) (.p (.sl 1 (((rtL n v r k).filter fun e => !decide (e = node)).map iR) false)) (memL [(1000, (q + 1, some (ringM n v r)))]) := by
  refine ocall_of1 Tryz.func17 rfl (fun w0 F S0 M0 => ?_)
  haveI : FPI Tryz.prog 39 [.bx [.i node] 0] True (fun e => decide (e = node)) := ⟨fun _ e => others1_w e node⟩
  have hlen := rtL_len n v r k
  have hX := rListO_at (n := n) (v := v) (r := r) hn hv hr hk hl 1000 q 9 (by decide)
  generalize rtL n v r k = l at *
  repeat' (first
      | refine rnC ?_
      | refine rnSB ?_
      | refine rnG ?_
      | refine rnU ?_
      | ((fail_if_success (refine rnKn ?_)); refine rnP ?_ ?_ <;> (intro hq; try (have hq' := hq; simp only [hqs] at hq')))
      | refine rkC ?_
      | refine rkSB ?_
      | refine rkF ?_
      | refine rkU ?_
      | ((fail_if_success (refine rkKn ?_)); refine rkP ?_ ?_ <;> (intro hq; try (have hq' := hq; simp only [hqs] at hq')))
      | refine stp ?_
      | refine ifT ?_
      | refine ifF ?_
      | (refine ifQ ?_ ?_ <;> (try (intro hn)))
      | (refine ifB ?_ ?_ <;> (intro hq; try (have hq' := hq; simp only [hqs] at hq'))))
  refine rn_any (gd_n rfl rfl) rfl (lop_ocall rfl inferInstance (.cons rfl (.cons rfl .nil)) hX (fun p hp => by simp at hp; subst hp; rfl) (fun p hp => by simp at hp; subst hp; rfl) (fun p hp => by simp at hp; subst hp; rfl) (fun p hp => by simp at hp; subst hp; rfl) rfl) ?_
  as_aux_lemma =>
    repeat' (first
        | refine rnC ?_
        | refine rnSB ?_
        | refine rnG ?_
        | refine rnU ?_
        | ((fail_if_success (refine rnKn ?_)); refine rnP ?_ ?_ <;> (intro hq; try (have hq' := hq; simp only [hqs] at hq')))
        | refine rkC ?_
        | refine rkSB ?_
        | refine rkF ?_
        | refine rkU ?_
        | ((fail_if_success (refine rkKn ?_)); refine rkP ?_ ?_ <;> (intro hq; try (have hq' := hq; simp only [hqs] at hq')))
        | refine stp ?_
        | refine ifT ?_
        | refine ifF ?_
        | (refine ifQ ?_ ?_ <;> (try (intro hn)))
        | (refine ifB ?_ ?_ <;> (intro hq; try (have hq' := hq; simp only [hqs] at hq'))))
    exact RetO.mk (ot1 rfl rfl (.one (finC_map rfl rfl rfl rfl)) rfl) ⟨.abs, trivial⟩
instance others_i {c g m n v r : Nat} {k : List Nat} {node : Int} : OC Tryz.prog 17 [.o (.ptr c g 0), strV k, .p (.i node)] [(c, (m, some (ringM n v r)))] [] (m = g + 1 ∧ n ≤ 8 ∧ v ≤ 16 ∧ r ≤ 8 ∧ okB k ∧ k.length ≤ 1000000) (.p (.sl 1 (((rtL n v r k).filter fun e => !decide (e = node)).map iR) false)) [(c, (m, some (ringM n v r)))] := ⟨fun h => by obtain ⟨rfl, h1, h2, h3, h4, h5⟩ := h; exact (others_o g n v r k node h1 h2 h3 h4 h5).one c⟩
end Go.Proofs.YthhlcdacmlnjdaaGreat.Rg
