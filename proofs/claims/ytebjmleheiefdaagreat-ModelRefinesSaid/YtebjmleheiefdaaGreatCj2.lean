/- joins: the entries that stay; entries appended, out of whatever yields them -/
import Derived.Test.YtebjmleheiefdaaGreatCj1
import Derived.Test.YtebjmleheiefdaaGreatCa4
namespace Go.Proofs.YtebjmleheiefdaaGreat.Ca
open Go Go.RowKit Go.Aw Go.Aw.Cart Go.Aw.Ord Go.Sort
set_option linter.unusedVariables false
set_option linter.unusedSimpArgs false
set_option maxRecDepth 8000
set_option maxHeartbeats 4000000
open J1
def stayP (b : Crt) (both : Bool) (e : Ent) : Bool := (both && decide (e ∈ b.2)) || !hasF b.1 (dotE e)
theorem staysF_is (a b : Crt) (both : Bool) : staysF a b both = a.2.filter (stayP b both) := rfl
theorem filter_at {p : Ent → Bool} {l : List Ent} {i : Nat} (hi : i < l.length) (hp : p (l.getD i default) = true) : (l.filter p)[((l.take i).filter p).length]? = some (l.getD i default) := by
  have e : l = l.take i ++ l.getD i default :: l.drop (i + 1) := by
    rw [getD_at hi, ← List.drop_eq_getElem_cons hi, List.take_append_drop]
  conv => lhs; arg 1; rw [e]
  rw [List.filter_append, List.getElem?_append_right (Nat.le_refl _), Nat.sub_self, List.filter_cons_of_pos hp]; rfl
theorem filter_go {p : Ent → Bool} {l : List Ent} {i : Nat} (hi : i < l.length) : ((l.take (i + 1)).filter p).length = ((l.take i).filter p).length + (if p (l.getD i default) = true then 1 else 0) := by
  rw [take_get' hi, List.filter_append, List.length_append]
  congr 1
  by_cases h : p (l.getD i default) = true
  · rw [if_pos h, List.filter_cons_of_pos h]; rfl
  · rw [if_neg h, List.filter_cons_of_neg h]; rfl
theorem stays1_w (v w : List Int) (l m : List Ent) (ex ey both : Bool) (hl : l.length ≤ 1000000000) (hm : m.length ≤ 1000000000) (hw : w.length = 8) : ICall Tryz.prog 95 [.bx (cR v l ex) 0, .bx [.b both] 0, .bx (cR w m ey) 0] ((staysF (v, l) (w, m) both).map eV) := by
  refine icall_of Tryz.func95 rfl (fun w0 F S0 M0 I yv hone hY => ?_)
  rw [List.length_map]
  obtain ⟨N, hN⟩ : ∃ N, N = (staysF (v, l) (w, m) both).length := ⟨_, rfl⟩
  rw [← hN]
  repeat' (first
      | refine rnC ?_
      | refine rnSB ?_
      | refine rnG ?_
      | refine rnU ?_
      | ((fail_if_success (refine rnKn ?_)); refine rnP ?_ ?_ <;> (intro hq; try (have hq' := hq; simp only [hqs] at hq')))
      | refine rkC ?_
      | refine rkSB ?_
      | refine rkF ?_
      | refine rkU ?_
      | ((fail_if_success (refine rkKn ?_)); refine rkP ?_ ?_ <;> (intro hq; try (have hq' := hq; simp only [hqs] at hq')))
      | refine stp ?_
      | refine aws_draws [] mixed (by kernel_rfl) ?_
      | refine ifT ?_
      | refine ifF ?_
      | (refine ifQ ?_ ?_ <;> (try (intro hn)))
      | (refine ifB ?_ ?_ <;> (intro hq; try (have hq' := hq; simp only [hqs] at hq'))))
  refine aws_loopS [6, 7, 11, 12, 13, 14, 15, 16, 17, 18, 19, 20, 21, 22, 23, 24, 25, 26, 27, 28, 29, 30, 31, 32, 33, 34, 35, 36, 37] [1000, 6] (fun (x : Nat × Nat × Option MO) => [(11, .p (.i x.1))]) (fun x => [(1000, (1, some (.abs (I x.2.1)))), (6, (x.1, x.2.2))])
    (fun x => x.1 ≤ l.length ∧ x.2.1 = ((l.take x.1).filter (stayP (w, m) both)).length) (fun x => l.length - x.1) (0, 0, none) ⟨Nat.zero_le _, rfl⟩ (by exact knA) (by exact knA) ?_
  rintro ⟨i, c, c6⟩ β γ ⟨hi, hc⟩
  simp only at hi hc
  dsimp only
  by_cases hil : i < l.length
  · have hd : decide ((i : Int) < (l.length : Int)) = true := decide_eq_true (by omega)
    have hgo := filter_go (p := stayP (w, m) both) hil
    have hsp : stayP (w, m) both (l.getD (i : Int).toNat default) = ((both && decide (l.getD (i : Int).toNat default ∈ m)) || !hasF w (dotE (l.getD (i : Int).toNat default))) := rfl
    cases hs : stayP (w, m) both (l.getD (i : Int).toNat default) with
    | true =>
      have hs' := hs
      rw [Int.toNat_natCast] at hs'
      have hy := hY c (eV (l.getD (i : Int).toNat default)) (by
        rw [List.getElem?_map, staysF_is, hc, filter_at hil hs', Int.toNat_natCast]; rfl)
      rw [if_pos hs'] at hgo
      rw [hs] at hsp
      cases hb : both with
      | true =>
        subst hb
        cases hmm : decide (l.getD (i : Int).toNat default ∈ m) with
        | true =>
          as_aux_lemma =>
            repeat' (first
                | refine rnC ?_
                | refine rnSB ?_
                | refine rnG ?_
                | refine rnU ?_
                | ((fail_if_success (refine rnKn ?_)); refine rnP ?_ ?_ <;> (intro hq; try (have hq' := hq; simp only [hqs] at hq')))
                | refine rkC ?_
                | refine rkSB ?_
                | refine rkF ?_
                | refine rkU ?_
                | ((fail_if_success (refine rkKn ?_)); refine rkP ?_ ?_ <;> (intro hq; try (have hq' := hq; simp only [hqs] at hq')))
                | refine stp ?_
                | refine aws_draws [] mixed (by kernel_rfl) ?_
                | refine ifT ?_
                | refine ifF ?_
                | (refine ifQ ?_ ?_ <;> (try (intro hn)))
                | (refine ifB ?_ ?_ <;> (intro hq; try (have hq' := hq; simp only [hqs] at hq'))))
            exact ⟨(i + 1, c + 1, some (.box 119 (eL (l.getD (i : Int).toNat default)))), _, by dsimp only; omega, ⟨by dsimp only; omega, by dsimp only; omega⟩, .refl, by exact frA⟩
        | false =>
          rw [hmm, Bool.and_false, Bool.false_or] at hsp
          have hh := hsp.symm
          as_aux_lemma =>
            repeat' (first
                | refine rnC ?_
                | refine rnSB ?_
                | refine rnG ?_
                | refine rnU ?_
                | ((fail_if_success (refine rnKn ?_)); refine rnP ?_ ?_ <;> (intro hq; try (have hq' := hq; simp only [hqs] at hq')))
                | refine rkC ?_
                | refine rkSB ?_
                | refine rkF ?_
                | refine rkU ?_
                | ((fail_if_success (refine rkKn ?_)); refine rkP ?_ ?_ <;> (intro hq; try (have hq' := hq; simp only [hqs] at hq')))
                | refine stp ?_
                | refine aws_draws [] mixed (by kernel_rfl) ?_
                | refine ifT ?_
                | refine ifF ?_
                | (refine ifQ ?_ ?_ <;> (try (intro hn)))
                | (refine ifB ?_ ?_ <;> (intro hq; try (have hq' := hq; simp only [hqs] at hq'))))
            exact ⟨(i + 1, c + 1, some (.box 119 (eL (l.getD (i : Int).toNat default)))), _, by dsimp only; omega, ⟨by dsimp only; omega, by dsimp only; omega⟩, .refl, by exact frA⟩
      | false =>
        subst hb
        rw [Bool.false_and, Bool.false_or] at hsp
        have hh := hsp.symm
        as_aux_lemma =>
          repeat' (first
              | refine rnC ?_
              | refine rnSB ?_
              | refine rnG ?_
              | refine rnU ?_
              | ((fail_if_success (refine rnKn ?_)); refine rnP ?_ ?_ <;> (intro hq; try (have hq' := hq; simp only [hqs] at hq')))
              | refine rkC ?_
              | refine rkSB ?_
              | refine rkF ?_
              | refine rkU ?_
              | ((fail_if_success (refine rkKn ?_)); refine rkP ?_ ?_ <;> (intro hq; try (have hq' := hq; simp only [hqs] at hq')))
              | refine stp ?_
              | refine aws_draws [] mixed (by kernel_rfl) ?_
              | refine ifT ?_
              | refine ifF ?_
              | (refine ifQ ?_ ?_ <;> (try (intro hn)))
              | (refine ifB ?_ ?_ <;> (intro hq; try (have hq' := hq; simp only [hqs] at hq'))))
          exact ⟨(i + 1, c + 1, some (.box 119 (eL (l.getD (i : Int).toNat default)))), _, by dsimp only; omega, ⟨by dsimp only; omega, by dsimp only; omega⟩, .refl, by exact frA⟩
    | false =>
      have hs' := hs
      rw [Int.toNat_natCast] at hs'
      rw [if_neg (by rw [hs']; simp)] at hgo
      rw [hs] at hsp
      have hsp2 := hsp.symm
      rw [Bool.or_eq_false_iff] at hsp2
      obtain ⟨hx, hh⟩ := hsp2
      cases hb : both with
      | true =>
        subst hb
        rw [Bool.true_and] at hx
        as_aux_lemma =>
          repeat' (first
              | refine rnC ?_
              | refine rnSB ?_
              | refine rnG ?_
              | refine rnU ?_
              | ((fail_if_success (refine rnKn ?_)); refine rnP ?_ ?_ <;> (intro hq; try (have hq' := hq; simp only [hqs] at hq')))
              | refine rkC ?_
              | refine rkSB ?_
              | refine rkF ?_
              | refine rkU ?_
              | ((fail_if_success (refine rkKn ?_)); refine rkP ?_ ?_ <;> (intro hq; try (have hq' := hq; simp only [hqs] at hq')))
              | refine stp ?_
              | refine aws_draws [] mixed (by kernel_rfl) ?_
              | refine ifT ?_
              | refine ifF ?_
              | (refine ifQ ?_ ?_ <;> (try (intro hn)))
              | (refine ifB ?_ ?_ <;> (intro hq; try (have hq' := hq; simp only [hqs] at hq'))))
          exact ⟨(i + 1, c, some (.box 119 (eL (l.getD (i : Int).toNat default)))), _, by dsimp only; omega, ⟨by dsimp only; omega, by dsimp only; omega⟩, .refl, by exact frA⟩
      | false =>
        subst hb
        as_aux_lemma =>
          repeat' (first
              | refine rnC ?_
              | refine rnSB ?_
              | refine rnG ?_
              | refine rnU ?_
              | ((fail_if_success (refine rnKn ?_)); refine rnP ?_ ?_ <;> (intro hq; try (have hq' := hq; simp only [hqs] at hq')))
              | refine rkC ?_
              | refine rkSB ?_
              | refine rkF ?_
              | refine rkU ?_
              | ((fail_if_success (refine rkKn ?_)); refine rkP ?_ ?_ <;> (intro hq; try (have hq' := hq; simp only [hqs] at hq')))
              | refine stp ?_
              | refine aws_draws [] mixed (by kernel_rfl) ?_
              | refine ifT ?_
              | refine ifF ?_
              | (refine ifQ ?_ ?_ <;> (try (intro hn)))
              | (refine ifB ?_ ?_ <;> (intro hq; try (have hq' := hq; simp only [hqs] at hq'))))
          exact ⟨(i + 1, c, some (.box 119 (eL (l.getD (i : Int).toNat default)))), _, by dsimp only; omega, ⟨by dsimp only; omega, by dsimp only; omega⟩, .refl, by exact frA⟩
  · have hd : decide ((i : Int) < (l.length : Int)) = false := decide_eq_false (by omega)
    obtain rfl : i = l.length := by omega
    obtain rfl : c = N := by rw [hc, hN, List.take_length, staysF_is]
    as_aux_lemma =>
      repeat' (first
          | refine rnC ?_
          | refine rnSB ?_
          | refine rnG ?_
          | refine rnU ?_
          | ((fail_if_success (refine rnKn ?_)); refine rnP ?_ ?_ <;> (intro hq; try (have hq' := hq; simp only [hqs] at hq')))
          | refine rkC ?_
          | refine rkSB ?_
          | refine rkF ?_
          | refine rkU ?_
          | ((fail_if_success (refine rkKn ?_)); refine rkP ?_ ?_ <;> (intro hq; try (have hq' := hq; simp only [hqs] at hq')))
          | refine stp ?_
          | refine aws_draws [] mixed (by kernel_rfl) ?_
          | refine ifT ?_
          | refine ifF ?_
          | (refine ifQ ?_ ?_ <;> (try (intro hn)))
          | (refine ifB ?_ ?_ <;> (intro hq; try (have hq' := hq; simp only [hqs] at hq'))))
      show RetO _ _ _ _ _ .normal _
      exact RetO.mk (res0 rfl rfl) ⟨.abs, trivial⟩
instance {v w : List Int} {l m : List Ent} {ex ey both : Bool} : IC Tryz.prog 95 [.bx (cR v l ex) 0, .bx [.b both] 0, .bx (cR w m ey) 0] (l.length ≤ 1000000000 ∧ m.length ≤ 1000000000 ∧ w.length = 8) ((staysF (v, l) (w, m) both).map eV) := ⟨fun h => stays1_w v w l m ex ey both h.1 h.2.1 h.2.2⟩
theorem stays_w (v w : List Int) (l m : List Ent) (ex ey both : Bool) : PCall Tryz.prog 60 [cV v l ex, cV w m ey, .p (.b both)] (.p (.fnv 95 [.bx (cR v l ex) 0, .bx [.b both] 0, .bx (cR w m ey) 0])) := by
  refine pcall_of Tryz.func60 rfl (fun w0 F S0 M0 => ?_)
  as_aux_lemma =>
    repeat' (first
        | refine rnC ?_
        | refine rnSB ?_
        | refine rnG ?_
        | refine rnU ?_
        | ((fail_if_success (refine rnKn ?_)); refine rnP ?_ ?_ <;> (intro hq; try (have hq' := hq; simp only [hqs] at hq')))
        | refine rkC ?_
        | refine rkSB ?_
        | refine rkF ?_
        | refine rkU ?_
        | ((fail_if_success (refine rkKn ?_)); refine rkP ?_ ?_ <;> (intro hq; try (have hq' := hq; simp only [hqs] at hq')))
        | refine stp ?_
        | refine aws_draws [] mixed (by kernel_rfl) ?_
        | refine ifT ?_
        | refine ifF ?_
        | (refine ifQ ?_ ?_ <;> (try (intro hn)))
        | (refine ifB ?_ ?_ <;> (intro hq; try (have hq' := hq; simp only [hqs] at hq'))))
    exact rt1 rfl rfl finS_p rfl
instance {v w : List Int} {l m : List Ent} {ex ey both : Bool} : PC Tryz.prog 60 [cV v l ex, cV w m ey, .p (.b both)] True (.p (.fnv 95 [.bx (cR v l ex) 0, .bx [.b both] 0, .bx (cR w m ey) 0])) := ⟨fun _ => stays_w v w l m ex ey both⟩
/-- appended to own entries, out of whatever yields these -/
theorem appendO_o (f : FuncId) (caps : List PVal) (hf : FnT Tryz.prog f) (n : Nat) (l0 l : List Ent) (h : l0.length + l.length ≤ 1000000000) (hI : ICall Tryz.prog f caps (l.map eV)) : OCall Tryz.prog 58 [.o (.osl 1000 n 4 0 l0.length), .p (.fnv f caps)] (memL [(1000, (n + 1, some (.buf 119 4 (l0.map eR))))]) (.o (.osl 1000 (n + l.length) 4 0 (l0 ++ l).length)) (memL [(1000, (n + l.length + 1, some (.buf 119 4 ((l0 ++ l).map eR))))]) := by
  refine ocall_of1 Tryz.func58 rfl (fun w0 F S0 M0 => ?_)
  repeat' (first
      | refine rnJ ?_
      | refine rnSB ?_
      | refine rnG ?_
      | refine rnU ?_
      | ((fail_if_success (refine rnKn ?_)); refine rnP ?_ ?_ <;> (intro hq; try (have hq' := hq; simp only [hqs] at hq')))
      | refine rkJ ?_
      | refine rkSB ?_
      | refine rkF ?_
      | refine rkU ?_
      | ((fail_if_success (refine rkKn ?_)); refine rkP ?_ ?_ <;> (intro hq; try (have hq' := hq; simp only [hqs] at hq')))
      | refine stp ?_
      | refine ifT ?_
      | refine ifF ?_
      | (refine ifQ ?_ ?_ <;> (try (intro hn)))
      | (refine ifB ?_ ?_ <;> (intro hq; try (have hq' := hq; simp only [hqs] at hq'))))
  refine aws_block ?_
  refine aws_range (ι := Option MO × Nat × List Ent) [5, 7, 8, 9, 10, 11] [2, 5, 1000] (fun x => [(2, (1, some (.box 60 [.osl 1000 x.2.1 4 0 x.2.2.length]))), (5, (x.2.1 - n, x.1)), (1000, (x.2.1 + 1, some (.buf 119 4 (x.2.2.map eR))))])
    (fun j x => x.2.2 = l0 ++ l.take j ∧ x.2.1 = n + j ∧ j ≤ l.length) (none, n, l0) rfl hf hI rfl ?_ rfl rfl (fun i => rfl) rfl ⟨by simp, rfl, Nat.zero_le _⟩ (by rw [Nat.sub_self]; exact knA) ?_ ?_
  · intro x hx
    simp only [List.mem_map] at hx
    obtain ⟨e, _, rfl⟩ := hx
    exact inferInstance
  · rintro j x hjx ⟨c5, g, m⟩ γ w0 F S0 M0 lp R R' ⟨hm, hg, hj⟩
    simp only at hm hg
    have hjn : j < l.length := by
      by_cases hlt : j < l.length
      · exact hlt
      · rw [List.getElem?_map, List.getElem?_eq_none (by omega)] at hjx; cases hjx
    obtain rfl : x = eV (l.getD j default) := by
      rw [List.getElem?_map, List.getElem?_eq_getElem hjn] at hjx
      have e := Option.some.inj hjx
      rw [List.getD_eq_getElem?_getD, List.getElem?_eq_getElem hjn, ← e]; rfl
    have hml : m.length ≤ 1000000000 := by rw [hm, List.length_append, List.length_take]; omega
    dsimp only
    subst hg
    rw [Nat.add_sub_cancel_left]
    generalize hed : l.getD j default = ed
    repeat' (first
        | refine rnJ ?_
        | refine rnSB ?_
        | refine rnG ?_
        | refine rnU ?_
        | ((fail_if_success (refine rnKn ?_)); refine rnP ?_ ?_ <;> (intro hq; try (have hq' := hq; simp only [hqs] at hq')))
        | refine rkJ ?_
        | refine rkSB ?_
        | refine rkF ?_
        | refine rkU ?_
        | ((fail_if_success (refine rkKn ?_)); refine rkP ?_ ?_ <;> (intro hq; try (have hq' := hq; simp only [hqs] at hq')))
        | refine stp ?_
        | refine ifT ?_
        | refine ifF ?_
        | (refine ifQ ?_ ?_ <;> (try (intro hn)))
        | (refine ifB ?_ ?_ <;> (intro hq; try (have hq' := hq; simp only [hqs] at hq'))))
    refine ⟨rfl, rfl, ?_⟩
    as_aux_lemma =>
      repeat' (first
          | refine rnC ?_
          | refine rnSB ?_
          | refine rnG ?_
          | refine rnU ?_
          | ((fail_if_success (refine rnKn ?_)); refine rnP ?_ ?_ <;> (intro hq; try (have hq' := hq; simp only [hqs] at hq')))
          | refine rkC ?_
          | refine rkSB ?_
          | refine rkF ?_
          | refine rkU ?_
          | ((fail_if_success (refine rkKn ?_)); refine rkP ?_ ?_ <;> (intro hq; try (have hq' := hq; simp only [hqs] at hq')))
          | refine stp ?_
          | refine ifT ?_
          | refine ifF ?_
          | (refine ifQ ?_ ?_ <;> (try (intro hn)))
          | (refine ifB ?_ ?_ <;> (intro hq; try (have hq' := hq; simp only [hqs] at hq'))))
      refine ⟨rfl, (some (.box 119 (eL ed)), n + j + 1, m ++ [ed]), _, ⟨by dsimp only; rw [hm, take_e hjn, hed, List.append_assoc], rfl, by omega⟩, .refl, Fr'.mk ?_ (by exact knA) (by rw [show n + j + 1 - n = j + 1 by omega]; exact knA)⟩
      repeat' (first | exact Agr.refl | refine Agr.appg rfl rfl ?_ | refine Agr.appgn rfl ?_ | refine Agr.set rfl ?_ | refine Agr.put rfl ?_ | refine Agr.put' ?_ | refine Agr.fr ?_ (memb_sub rfl) (memb_sub rfl) rfl rfl)
  · rintro ⟨c5, g, m⟩ γ ⟨hm, hg, hj⟩
    simp only [List.length_map] at hm hg
    subst hg
    obtain rfl : m = l0 ++ l := by rw [hm, List.take_length]
    dsimp only
    as_aux_lemma =>
      repeat' (first
          | refine rnJ ?_
          | refine rnSB ?_
          | refine rnG ?_
          | refine rnU ?_
          | ((fail_if_success (refine rnKn ?_)); refine rnP ?_ ?_ <;> (intro hq; try (have hq' := hq; simp only [hqs] at hq')))
          | refine rkJ ?_
          | refine rkSB ?_
          | refine rkF ?_
          | refine rkU ?_
          | ((fail_if_success (refine rkKn ?_)); refine rkP ?_ ?_ <;> (intro hq; try (have hq' := hq; simp only [hqs] at hq')))
          | refine stp ?_
          | refine ifT ?_
          | refine ifF ?_
          | (refine ifQ ?_ ?_ <;> (try (intro hn)))
          | (refine ifB ?_ ?_ <;> (intro hq; try (have hq' := hq; simp only [hqs] at hq'))))
      exact RetO.mk (ot1 rfl rfl (.one (.kosl rfl)) rfl) ⟨.buf, trivial⟩
instance {f : FuncId} {caps : List PVal} {l0 l : List Ent} {pre : Prop} {c g n len : Nat} [hf : FnT Tryz.prog f] [hi : IC Tryz.prog f caps pre (l.map eV)] : OC Tryz.prog 58 [.o (.osl c g 4 0 len), .p (.fnv f caps)] [(c, (n, some (.buf 119 4 (l0.map eR))))] [] (n = g + 1 ∧ len = l0.length ∧ pre ∧ l0.length + l.length ≤ 1000000000) (.o (.osl c (g + l.length) 4 0 (l0 ++ l).length)) [(c, (g + l.length + 1, some (.buf 119 4 ((l0 ++ l).map eR))))] := ⟨fun h => by obtain ⟨rfl, rfl, h1, h2⟩ := h; exact (appendO_o f caps hf g l0 l h2 (hi.call h1)).one c⟩
end Go.Proofs.YtebjmleheiefdaaGreat.Ca
