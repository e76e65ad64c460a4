/- dots: a set, as an own slice -/
import Derived.Test.YtgiekdhipbikoaaCaH
import Derived.Test.YtgiekdhipbikoaaKx
namespace Go.Proofs.Ytgiekdhipbikoaa.Ca
open Go Go.RowKit Go.Aw Go.Aw.Cart
set_option linter.unusedVariables false
set_option linter.unusedSimpArgs false
set_option maxRecDepth 8000
set_option maxHeartbeats 4000000
namespace G
theorem set_o (f : FuncId) (caps : List PVal) (hf : FnT Try.prog f) (l : List Dot) (h : l.length ≤ 1000000000) (hI : ICall Try.prog f caps (l.map dV)) : OCall Try.prog 57 [.p (.fnv f caps)] (fun _ => (0, none)) (.o (.osl 900 (l.filter dotF).length 2 0 (dotsOf l).length)) (memL [(900, ((l.filter dotF).length + 1, some (.buf 25 2 ((dotsOf l).map dR))))]) := by
  refine ocall_ofF 900 Try.func57 rfl (fun w0 F S0 M0 => ?_)
  repeat' (first
      | refine rnC ?_
      | refine rnSQ ?_
      | refine rnG ?_
      | refine rnU ?_
      | ((fail_if_success (refine rnKn ?_)); refine rnP ?_ ?_ <;> (intro hq; try (have hq' := hq; simp only [hqs] at hq')))
      | refine rkC ?_
      | refine rkSQ ?_
      | refine rkF ?_
      | refine rkU ?_
      | ((fail_if_success (refine rkKn ?_)); refine rkP ?_ ?_ <;> (intro hq; try (have hq' := hq; simp only [hqs] at hq')))
      | refine stp ?_
      | refine ifT ?_
      | refine ifF ?_
      | (refine ifQ ?_ ?_ <;> (try (intro hn)))
      | (refine ifB ?_ ?_ <;> (intro hq; try (have hq' := hq; simp only [hqs] at hq'))))
  refine aws_says (says_nil_box (p := 3) (o := 900) (ty := 25) (es := 2) rfl rfl (by decide) (by decide)) ?_
  refine aws_block ?_
  refine aws_range (ι := Option MO × Nat × Nat × List Dot) [4, 6, 7, 8, 9, 10, 11, 12] [3, 4, 900] (fun x => [(3, (1, some (.box 22 [.osl 900 x.2.2.1 2 0 x.2.2.2.length]))), (4, (x.2.1, x.1)), (900, (x.2.2.1 + 1, some (.buf 25 2 (x.2.2.2.map dR))))])
    (fun j x => x.2.2.2 = setTo l j ∧ x.2.1 = j ∧ j ≤ l.length ∧ x.2.2.1 = x.2.2.2.length) (none, 0, 0, []) rfl hf hI rfl ?_ rfl rfl (fun i => rfl) rfl ⟨rfl, rfl, Nat.zero_le _, rfl⟩ (by exact knA) ?_ ?_
  · intro x hx
    simp only [List.mem_map] at hx
    obtain ⟨e, _, rfl⟩ := hx
    exact inferInstance
  · rintro j x hjx ⟨c5, g, k, m⟩ γ w0 F S0 M0 lp R R' ⟨hm, hg, hj, hk⟩
    simp only at hm hg hk
    have hjn : j < l.length := by
      by_cases hlt : j < l.length
      · exact hlt
      · rw [List.getElem?_map, List.getElem?_eq_none (by omega)] at hjx; cases hjx
    obtain rfl : x = dV (l.getD j default) := by
      rw [List.getElem?_map, List.getElem?_eq_getElem hjn] at hjx
      have e := Option.some.inj hjx
      rw [List.getD_eq_getElem?_getD, List.getElem?_eq_getElem hjn, ← e]; rfl
    have hml : m.length ≤ 1000000000 := by have := setTo_len (l := l) (j := j); rw [hm]; omega
    have hst := setTo_succ hjn
    dsimp only
    subst hg
    generalize hed : l.getD g default = ed at hst ⊢
    repeat' (first
        | refine rnC ?_
        | refine rnSQ ?_
        | refine rnG ?_
        | refine rnU ?_
        | ((fail_if_success (refine rnKn ?_)); refine rnP ?_ ?_ <;> (intro hq; try (have hq' := hq; simp only [hqs] at hq')))
        | refine rkC ?_
        | refine rkSQ ?_
        | refine rkF ?_
        | refine rkU ?_
        | ((fail_if_success (refine rkKn ?_)); refine rkP ?_ ?_ <;> (intro hq; try (have hq' := hq; simp only [hqs] at hq')))
        | refine stp ?_
        | refine ifT ?_
        | refine ifF ?_
        | (refine ifQ ?_ ?_ <;> (try (intro hn)))
        | (refine ifB ?_ ?_ <;> (intro hq; try (have hq' := hq; simp only [hqs] at hq'))))
    refine ⟨rfl, rfl, ?_⟩
    cases hv : dotF ed with
    | true =>
      rw [if_pos hv] at hst
      repeat' (first
          | refine rnC ?_
          | refine rnSQ ?_
          | refine rnG ?_
          | refine rnU ?_
          | ((fail_if_success (refine rnKn ?_)); refine rnP ?_ ?_ <;> (intro hq; try (have hq' := hq; simp only [hqs] at hq')))
          | refine rkC ?_
          | refine rkSQ ?_
          | refine rkF ?_
          | refine rkU ?_
          | ((fail_if_success (refine rkKn ?_)); refine rkP ?_ ?_ <;> (intro hq; try (have hq' := hq; simp only [hqs] at hq')))
          | refine stp ?_
          | refine ifT ?_
          | refine ifF ?_
          | (refine ifQ ?_ ?_ <;> (try (intro hn)))
          | (refine ifB ?_ ?_ <;> (intro hq; try (have hq' := hq; simp only [hqs] at hq'))))
      refine ⟨rfl, (some (.box 25 (dL ed)), g + 1, k + 1, m ++ [ed]), _, ⟨by dsimp only; rw [hst, hm], rfl, by omega, by dsimp only; rw [List.length_append, List.length_singleton, hk]⟩, .refl, Fr'.mk ?_ (by exact knA) (by exact knA)⟩
      repeat' (first | exact Agr.refl | refine Agr.appg rfl rfl ?_ | refine Agr.appgn rfl ?_ | refine Agr.set rfl ?_ | refine Agr.put rfl ?_ | refine Agr.put' ?_ | refine Agr.fr ?_ (memb_sub rfl) (memb_sub rfl) rfl rfl)
    | false =>
      rw [if_neg (by rw [hv]; simp), List.append_nil] at hst
      repeat' (first
          | refine rnC ?_
          | refine rnSQ ?_
          | refine rnG ?_
          | refine rnU ?_
          | ((fail_if_success (refine rnKn ?_)); refine rnP ?_ ?_ <;> (intro hq; try (have hq' := hq; simp only [hqs] at hq')))
          | refine rkC ?_
          | refine rkSQ ?_
          | refine rkF ?_
          | refine rkU ?_
          | ((fail_if_success (refine rkKn ?_)); refine rkP ?_ ?_ <;> (intro hq; try (have hq' := hq; simp only [hqs] at hq')))
          | refine stp ?_
          | refine ifT ?_
          | refine ifF ?_
          | (refine ifQ ?_ ?_ <;> (try (intro hn)))
          | (refine ifB ?_ ?_ <;> (intro hq; try (have hq' := hq; simp only [hqs] at hq'))))
      refine ⟨rfl, (some (.box 25 (dL ed)), g + 1, k, m), _, ⟨by dsimp only; rw [hst, hm], rfl, by omega, hk⟩, .refl, Fr'.mk ?_ (by exact knA) (by exact knA)⟩
      repeat' (first | exact Agr.refl | refine Agr.appg rfl rfl ?_ | refine Agr.appgn rfl ?_ | refine Agr.set rfl ?_ | refine Agr.put rfl ?_ | refine Agr.put' ?_ | refine Agr.fr ?_ (memb_sub rfl) (memb_sub rfl) rfl rfl)
  · rintro ⟨c5, g, k, m⟩ γ ⟨hm, hg, hj, hk⟩
    simp only [List.length_map] at hm hg hk
    subst hg
    have hm' : m = l.filter dotF := by rw [hm, setTo, List.take_length]
    have hml : m.length ≤ 1000000000 := by have := setTo_len (l := l) (j := l.length); rw [hm]; omega
    have hsl : (sortD m).length ≤ 1000000000 := by rw [sortD_len]; exact hml
    have hsl' := sortD_len m
    have hcl := comp_len (sortD m)
    have e2 : (dotsOf l).map dR = ((comp (sortD m)).map dR).take 2000 := by rw [hm', ← List.map_take]; rfl
    have e3 : (l.filter dotF).length = k := by rw [hk, hm']
    have e1 : (dotsOf l).length = (if (2000 : Int) < ((comp (sortD m)).length : Int) then (2000 : Int) else ((comp (sortD m)).length : Int)).toNat := by
      rw [show dotsOf l = (comp (sortD m)).take 2000 by rw [hm']; rfl, List.length_take]
      split <;> omega
    rw [e1, e2, e3]
    clear hm hm' e1 e2 e3
    dsimp only
    by_cases hc : 2000 < (comp (sortD m)).length
    · repeat' (first
    | refine rnC ?_
    | refine rnSQ ?_
    | refine rnG ?_
    | refine rnU ?_
    | ((fail_if_success (refine rnKn ?_)); refine rnP ?_ ?_ <;> (intro hq; try (have hq' := hq; simp only [hqs] at hq')))
    | refine rkC ?_
    | refine rkSQ ?_
    | refine rkF ?_
    | refine rkU ?_
    | ((fail_if_success (refine rkKn ?_)); refine rkP ?_ ?_ <;> (intro hq; try (have hq' := hq; simp only [hqs] at hq')))
    | refine stpR ?_
    | refine ifT ?_
    | refine ifF ?_
    | (refine ifQ ?_ ?_ <;> (try (intro hn)))
    | (refine ifB ?_ ?_ <;> (intro hq; try (have hq' := hq; simp only [hqs] at hq'))))
      refine aws_says (says_cut (o := 900) 2000 rfl) ?_
      repeat' (first
          | refine rnC ?_
          | refine rnSQ ?_
          | refine rnG ?_
          | refine rnU ?_
          | ((fail_if_success (refine rnKn ?_)); refine rnP ?_ ?_ <;> (intro hq; try (have hq' := hq; simp only [hqs] at hq')))
          | refine rkC ?_
          | refine rkSQ ?_
          | refine rkF ?_
          | refine rkU ?_
          | ((fail_if_success (refine rkKn ?_)); refine rkP ?_ ?_ <;> (intro hq; try (have hq' := hq; simp only [hqs] at hq')))
          | refine stp ?_
          | refine ifT ?_
          | refine ifF ?_
          | (refine ifQ ?_ ?_ <;> (try (intro hn)))
          | (refine ifB ?_ ?_ <;> (intro hq; try (have hq' := hq; simp only [hqs] at hq'))))
      exact RetO.mk (ot1 rfl rfl (.one (.kosl rfl)) rfl) ⟨.buf, trivial⟩
    · repeat' (first
    | refine rnC ?_
    | refine rnSQ ?_
    | refine rnG ?_
    | refine rnU ?_
    | ((fail_if_success (refine rnKn ?_)); refine rnP ?_ ?_ <;> (intro hq; try (have hq' := hq; simp only [hqs] at hq')))
    | refine rkC ?_
    | refine rkSQ ?_
    | refine rkF ?_
    | refine rkU ?_
    | ((fail_if_success (refine rkKn ?_)); refine rkP ?_ ?_ <;> (intro hq; try (have hq' := hq; simp only [hqs] at hq')))
    | refine stpR ?_
    | refine ifT ?_
    | refine ifF ?_
    | (refine ifQ ?_ ?_ <;> (try (intro hn)))
    | (refine ifB ?_ ?_ <;> (intro hq; try (have hq' := hq; simp only [hqs] at hq'))))
      refine aws_says (says_cut (o := 900) 2000 rfl) ?_
      repeat' (first
          | refine rnC ?_
          | refine rnSQ ?_
          | refine rnG ?_
          | refine rnU ?_
          | ((fail_if_success (refine rnKn ?_)); refine rnP ?_ ?_ <;> (intro hq; try (have hq' := hq; simp only [hqs] at hq')))
          | refine rkC ?_
          | refine rkSQ ?_
          | refine rkF ?_
          | refine rkU ?_
          | ((fail_if_success (refine rkKn ?_)); refine rkP ?_ ?_ <;> (intro hq; try (have hq' := hq; simp only [hqs] at hq')))
          | refine stp ?_
          | refine ifT ?_
          | refine ifF ?_
          | (refine ifQ ?_ ?_ <;> (try (intro hn)))
          | (refine ifB ?_ ?_ <;> (intro hq; try (have hq' := hq; simp only [hqs] at hq'))))
      exact RetO.mk (ot1 rfl rfl (.one (.kosl rfl)) rfl) ⟨.buf, trivial⟩
end G
theorem dOf_o (l : List Dot) (ex : Bool) (h : l.length ≤ 1000000000) : OCall Try.prog 22 [.p (.sl 2 (l.map dR) ex)] (fun _ => (0, none)) (.o (.osl 5 (0 + (l.filter dotF).length) 2 0 (G.dotsOf l).length)) (memL [(5, (0 + ((l.filter dotF).length + 1), some (.buf 25 2 ((G.dotsOf l).map dR))))]) := by
  refine ocall_ofF 5 Try.func22 rfl (fun w0 F S0 M0 => ?_)
  haveI : ∀ c k : Nat, OC Try.prog 57 [.p (.fnv 89 [.bx [.sl 2 (l.map dR) ex] 0])] [] [(c, k)] True (.o (.osl c (k + (l.filter dotF).length) 2 0 (G.dotsOf l).length)) [(c, (k + ((l.filter dotF).length + 1), some (.buf 25 2 ((G.dotsOf l).map dR))))] := fun c k => ⟨fun _ => (G.set_o _ _ inferInstance l h (iterD_w l ex h)).fresh1 c k⟩
  repeat' (first
      | refine rnQ ?_
      | refine rnSQ ?_
      | refine rnG ?_
      | refine rnU ?_
      | ((fail_if_success (refine rnKn ?_)); refine rnP ?_ ?_ <;> (intro hq; try (have hq' := hq; simp only [hqs] at hq')))
      | refine rkQ ?_
      | refine rkSQ ?_
      | refine rkF ?_
      | refine rkU ?_
      | ((fail_if_success (refine rkKn ?_)); refine rkP ?_ ?_ <;> (intro hq; try (have hq' := hq; simp only [hqs] at hq')))
      | refine stp ?_
      | refine aws_draws [] mixed (by kernel_rfl) ?_
      | refine ifT ?_
      | refine ifF ?_
      | (refine ifQ ?_ ?_ <;> (try (intro hn)))
      | (refine ifB ?_ ?_ <;> (intro hq; try (have hq' := hq; simp only [hqs] at hq'))))
  exact RetO.mk (ot1 rfl rfl (.one (.kosl rfl)) rfl) ⟨.buf, trivial⟩
end Go.Proofs.Ytgiekdhipbikoaa.Ca
