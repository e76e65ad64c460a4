/- joins: the entries that stay; entries appended, out of whatever yields them -/
import Derived.Test.YtpmobjnaiaogbaaGreatCj1
import Derived.Test.YtpmobjnaiaogbaaGreatCa4
namespace Go.Proofs.YtpmobjnaiaogbaaGreat.Ca
open Go Go.RowKit Go.Aw Go.Aw.Cart Go.Aw.Ord Go.Sort
set_option linter.unusedVariables false
set_option linter.unusedSimpArgs false
set_option maxRecDepth 8000
set_option maxHeartbeats 4000000
open J1
def stayP (b : Crt) (both : Bool) (e : Ent) : Bool := (both && decide (e ∈ b.2)) || !hasF b.1 (dotE e)
theorem staysF_is (a b : Crt) (both : Bool) : staysF a b both = a.2.filter (stayP b both) := rfl
theorem filter_at {p : Ent → Bool} {l : List Ent} {i : Nat} (hi : i < l.length) (hp : p (l.getD i default) = true) : (l.filter p)[((l.take i).filter p).length]? = some (l.getD i default) := by
  have e : l = l.take i ++ l.getD i default :: l.drop (i + 1) := by
    rw [getD_at hi, ← List.drop_eq_getElem_cons hi, List.take_append_drop]
  conv => lhs; arg 1; rw [e]
  rw [List.filter_append, List.getElem?_append_right (Nat.le_refl _), Nat.sub_self, List.filter_cons_of_pos hp]; rfl
theorem filter_go {p : Ent → Bool} {l : List Ent} {i : Nat} (hi : i < l.length) : ((l.take (i + 1)).filter p).length = ((l.take i).filter p).length + (if p (l.getD i default) = true then 1 else 0) := by
  rw [take_get' hi, List.filter_append, List.length_append]
  congr 1
  by_cases h : p (l.getD i default) = true
  · rw [if_pos h, List.filter_cons_of_pos h]; rfl
  · rw [if_neg h, List.filter_cons_of_neg h]; rfl
/-- appended to own entries, out of whatever yields these -/
theorem appendO_o (f : FuncId) (caps : List PVal) (hf : FnT Tryz.prog f) (n : Nat) (l0 l : List Ent) (h : l0.length + l.length ≤ 1000000000) (hI : ICall Tryz.prog f caps (l.map eV)) : OCall Tryz.prog 96 [.o (.osl 1000 n 4 0 l0.length), .p (.fnv f caps)] (memL [(1000, (n + 1, some (.buf 48 4 (l0.map eR))))]) (.o (.osl 1000 (n + l.length) 4 0 (l0 ++ l).length)) (memL [(1000, (n + l.length + 1, some (.buf 48 4 ((l0 ++ l).map eR))))]) := by
  refine ocall_of1 Tryz.func96 rfl (fun w0 F S0 M0 => ?_)
  repeat' (first
      | refine rnJ ?_
      | refine rnSB ?_
      | refine rnG ?_
      | refine rnU ?_
      | ((fail_if_success (refine rnKn ?_)); refine rnP ?_ ?_ <;> (intro hq; try (have hq' := hq; simp only [hqs] at hq')))
      | refine rkJ ?_
      | refine rkSB ?_
      | refine rkF ?_
      | refine rkU ?_
      | ((fail_if_success (refine rkKn ?_)); refine rkP ?_ ?_ <;> (intro hq; try (have hq' := hq; simp only [hqs] at hq')))
      | refine stp ?_
      | refine ifT ?_
      | refine ifF ?_
      | (refine ifQ ?_ ?_ <;> (try (intro hn)))
      | (refine ifB ?_ ?_ <;> (intro hq; try (have hq' := hq; simp only [hqs] at hq'))))
  refine aws_block ?_
  refine aws_range (ι := Option MO × Nat × List Ent) [5, 7, 8, 9, 10, 11] [2, 5, 1000] (fun x => [(2, (1, some (.box 25 [.osl 1000 x.2.1 4 0 x.2.2.length]))), (5, (x.2.1 - n, x.1)), (1000, (x.2.1 + 1, some (.buf 48 4 (x.2.2.map eR))))])
    (fun j x => x.2.2 = l0 ++ l.take j ∧ x.2.1 = n + j ∧ j ≤ l.length) (none, n, l0) rfl hf hI rfl ?_ rfl rfl (fun i => rfl) rfl ⟨by simp, rfl, Nat.zero_le _⟩ (by rw [Nat.sub_self]; exact knA) ?_ ?_
  · intro x hx
    simp only [List.mem_map] at hx
    obtain ⟨e, _, rfl⟩ := hx
    exact inferInstance
  · rintro j x hjx ⟨c5, g, m⟩ γ w0 F S0 M0 lp R R' ⟨hm, hg, hj⟩
    simp only at hm hg
    have hjn : j < l.length := by
      by_cases hlt : j < l.length
      · exact hlt
      · rw [List.getElem?_map, List.getElem?_eq_none (by omega)] at hjx; cases hjx
    obtain rfl : x = eV (l.getD j default) := by
      rw [List.getElem?_map, List.getElem?_eq_getElem hjn] at hjx
      have e := Option.some.inj hjx
      rw [List.getD_eq_getElem?_getD, List.getElem?_eq_getElem hjn, ← e]; rfl
    have hml : m.length ≤ 1000000000 := by rw [hm, List.length_append, List.length_take]; omega
    dsimp only
    subst hg
    rw [Nat.add_sub_cancel_left]
    generalize hed : l.getD j default = ed
    repeat' (first
        | refine rnJ ?_
        | refine rnSB ?_
        | refine rnG ?_
        | refine rnU ?_
        | ((fail_if_success (refine rnKn ?_)); refine rnP ?_ ?_ <;> (intro hq; try (have hq' := hq; simp only [hqs] at hq')))
        | refine rkJ ?_
        | refine rkSB ?_
        | refine rkF ?_
        | refine rkU ?_
        | ((fail_if_success (refine rkKn ?_)); refine rkP ?_ ?_ <;> (intro hq; try (have hq' := hq; simp only [hqs] at hq')))
        | refine stp ?_
        | refine ifT ?_
        | refine ifF ?_
        | (refine ifQ ?_ ?_ <;> (try (intro hn)))
        | (refine ifB ?_ ?_ <;> (intro hq; try (have hq' := hq; simp only [hqs] at hq'))))
    refine ⟨rfl, rfl, ?_⟩
    as_aux_lemma =>
      repeat' (first
          | refine rnC ?_
          | refine rnSB ?_
          | refine rnG ?_
          | refine rnU ?_
          | ((fail_if_success (refine rnKn ?_)); refine rnP ?_ ?_ <;> (intro hq; try (have hq' := hq; simp only [hqs] at hq')))
          | refine rkC ?_
          | refine rkSB ?_
          | refine rkF ?_
          | refine rkU ?_
          | ((fail_if_success (refine rkKn ?_)); refine rkP ?_ ?_ <;> (intro hq; try (have hq' := hq; simp only [hqs] at hq')))
          | refine stp ?_
          | refine ifT ?_
          | refine ifF ?_
          | (refine ifQ ?_ ?_ <;> (try (intro hn)))
          | (refine ifB ?_ ?_ <;> (intro hq; try (have hq' := hq; simp only [hqs] at hq'))))
      refine ⟨rfl, (some (.box 48 (eL ed)), n + j + 1, m ++ [ed]), _, ⟨by dsimp only; rw [hm, take_e hjn, hed, List.append_assoc], rfl, by omega⟩, .refl, Fr'.mk ?_ (by exact knA) (by rw [show n + j + 1 - n = j + 1 by omega]; exact knA)⟩
      repeat' (first | exact Agr.refl | refine Agr.appg rfl rfl ?_ | refine Agr.appgn rfl ?_ | refine Agr.set rfl ?_ | refine Agr.put rfl ?_ | refine Agr.put' ?_ | refine Agr.fr ?_ (memb_sub rfl) (memb_sub rfl) rfl rfl)
  · rintro ⟨c5, g, m⟩ γ ⟨hm, hg, hj⟩
    simp only [List.length_map] at hm hg
    subst hg
    obtain rfl : m = l0 ++ l := by rw [hm, List.take_length]
    dsimp only
    as_aux_lemma =>
      repeat' (first
          | refine rnJ ?_
          | refine rnSB ?_
          | refine rnG ?_
          | refine rnU ?_
          | ((fail_if_success (refine rnKn ?_)); refine rnP ?_ ?_ <;> (intro hq; try (have hq' := hq; simp only [hqs] at hq')))
          | refine rkJ ?_
          | refine rkSB ?_
          | refine rkF ?_
          | refine rkU ?_
          | ((fail_if_success (refine rkKn ?_)); refine rkP ?_ ?_ <;> (intro hq; try (have hq' := hq; simp only [hqs] at hq')))
          | refine stp ?_
          | refine ifT ?_
          | refine ifF ?_
          | (refine ifQ ?_ ?_ <;> (try (intro hn)))
          | (refine ifB ?_ ?_ <;> (intro hq; try (have hq' := hq; simp only [hqs] at hq'))))
      exact RetO.mk (ot1 rfl rfl (.one (.kosl rfl)) rfl) ⟨.buf, trivial⟩
instance {f : FuncId} {caps : List PVal} {l0 l : List Ent} {pre : Prop} {c g n len : Nat} [hf : FnT Tryz.prog f] [hi : IC Tryz.prog f caps pre (l.map eV)] : OC Tryz.prog 96 [.o (.osl c g 4 0 len), .p (.fnv f caps)] [(c, (n, some (.buf 48 4 (l0.map eR))))] [] (n = g + 1 ∧ len = l0.length ∧ pre ∧ l0.length + l.length ≤ 1000000000) (.o (.osl c (g + l.length) 4 0 (l0 ++ l).length)) [(c, (g + l.length + 1, some (.buf 48 4 ((l0 ++ l).map eR))))] := ⟨fun h => by obtain ⟨rfl, rfl, h1, h2⟩ := h; exact (appendO_o f caps hf g l0 l h2 (hi.call h1)).one c⟩
end Go.Proofs.YtpmobjnaiaogbaaGreat.Ca
