/- packs, the law PackWith: another cart of one key; packs: PackWith over what was read -/
import Derived.Test.YtbfjcohocedoaaaQ7
import Derived.Test.YtbfjcohocedoaaaQ4
namespace Go.Proofs.Ytbfjcohocedoaaa.Wi
open Go Go.RowKit Go.Aw Go.Aw.Cart Go.Proofs.Ytbfjcohocedoaaa.Ca
set_option linter.unusedVariables false
set_option linter.unusedSimpArgs false
set_option maxRecDepth 8000
set_option maxHeartbeats 4000000
open WE
theorem find_of {Q : Crt × Bool → Prop} (hz : Q ((zeroV, []), false)) : ∀ {l : List Kd} {k : List Nat}, (∀ e ∈ l, Q (e.2, true)) → Q (findK l k)
  | [], _, _ => hz
  | e :: l, k, h => by
    rw [findK]
    split
    · exact h e (List.mem_cons_self ..)
    · exact find_of hz fun x hx => h x (List.mem_cons_of_mem _ hx)
theorem with_all {P : Kd → Prop} {l : List Kd} {k : List Nat} {c : Crt} (h : ∀ e ∈ l, P e) (hs : ∀ e ∈ l, e.1 = k → P (e.1, c)) (hk : P (k, c)) : ∀ e ∈ withK l k c, P e := by
  intro e he
  unfold withK at he
  split at he
  · unfold setK at he
    obtain ⟨x, hx, rfl⟩ := List.mem_map.1 he
    by_cases q : x.1 = k
    · rw [if_pos q]; exact hs x hx q
    · rw [if_neg q]; exact h x hx
  · rcases List.mem_append.1 he with q | q
    · exact h e (List.mem_of_mem_take q)
    · rcases List.mem_cons.1 q with q | q
      · rw [q]; exact hk
      · exact h e (List.mem_of_mem_drop q)
theorem packWith_w (l : List Kd) (key other : List Nat) (v : List Int) (m : List Ent) (ex ey : Bool) (hl : l.length ≤ 9223372036854775807) (hin : ∀ k ∈ l, KdI k) (hk : okB key) (hkl : key.length ≤ 9223372036854775807) (ho : okB other) (hol : other.length ≤ 9223372036854775807) (hv : vecOk v) (hm : m.length ≤ 9223372036854775807) : PCall Try.prog 6 [.p (.sl 10 (l.map kR) ex), .p (.v (.string (strOf key))), .p (.v (.string (strOf other))), cV v m ey] (.p (.b true)) := by
  refine pcall_of Try.func6 rfl (fun w0 F S0 M0 => ?_)
  have c0 := pgreat_w l ex hl
  cases hg : greatL l with
  | true =>
    rw [hg] at c0
    haveI : PC Try.prog 8 [.p (.sl 10 (l.map kR) ex)] True (.p (.b true)) := ⟨fun _ => c0⟩
    as_aux_lemma =>
      repeat' (first
          | refine rnC ?_
          | refine rnSB ?_
          | refine rnG ?_
          | refine rnU ?_
          | ((fail_if_success (refine rnKn ?_)); refine rnP ?_ ?_ <;> (intro hq; try (have hq' := hq; simp only [hqs] at hq')))
          | refine rkC ?_
          | refine rkSB ?_
          | refine rkF ?_
          | refine rkU ?_
          | ((fail_if_success (refine rkKn ?_)); refine rkP ?_ ?_ <;> (intro hq; try (have hq' := hq; simp only [hqs] at hq')))
          | refine stp ?_
          | refine aws_draws [] mixed (by kernel_rfl) ?_
          | refine ifT ?_
          | refine ifF ?_
          | (refine ifQ ?_ ?_ <;> (try (intro hn)))
          | (refine ifB ?_ ?_ <;> (intro hq; try (have hq' := hq; simp only [hqs] at hq'))))
      exact rt1 rfl rfl finS_p rfl
  | false =>
  rw [hg] at c0
  haveI : PC Try.prog 8 [.p (.sl 10 (l.map kR) ex)] True (.p (.b false)) := ⟨fun _ => c0⟩
  obtain ⟨h30, hkd⟩ := greatL_no hg
  by_cases h20 : 20 < key.length
  · have d1 : decide (20 < (key.length : Int)) = true := decide_eq_true (by omega)
    as_aux_lemma =>
      repeat' (first
          | refine rnC ?_
          | refine rnSB ?_
          | refine rnG ?_
          | refine rnU ?_
          | ((fail_if_success (refine rnKn ?_)); refine rnP ?_ ?_ <;> (intro hq; try (have hq' := hq; simp only [hqs] at hq')))
          | refine rkC ?_
          | refine rkSB ?_
          | refine rkF ?_
          | refine rkU ?_
          | ((fail_if_success (refine rkKn ?_)); refine rkP ?_ ?_ <;> (intro hq; try (have hq' := hq; simp only [hqs] at hq')))
          | refine stp ?_
          | refine aws_draws [] mixed (by kernel_rfl) ?_
          | refine ifT ?_
          | refine ifF ?_
          | (refine ifQ ?_ ?_ <;> (try (intro hn)))
          | (refine ifB ?_ ?_ <;> (intro hq; try (have hq' := hq; simp only [hqs] at hq'))))
      exact rt1 rfl rfl finS_p rfl
  have d1 : decide (20 < (key.length : Int)) = false := decide_eq_false (by omega)
  by_cases h100 : 100 < other.length
  · have d2 : decide (100 < (other.length : Int)) = true := decide_eq_true (by omega)
    as_aux_lemma =>
      repeat' (first
          | refine rnC ?_
          | refine rnSB ?_
          | refine rnG ?_
          | refine rnU ?_
          | ((fail_if_success (refine rnKn ?_)); refine rnP ?_ ?_ <;> (intro hq; try (have hq' := hq; simp only [hqs] at hq')))
          | refine rkC ?_
          | refine rkSB ?_
          | refine rkF ?_
          | refine rkU ?_
          | ((fail_if_success (refine rkKn ?_)); refine rkP ?_ ?_ <;> (intro hq; try (have hq' := hq; simp only [hqs] at hq')))
          | refine stp ?_
          | refine aws_draws [] mixed (by kernel_rfl) ?_
          | refine ifT ?_
          | refine ifF ?_
          | (refine ifQ ?_ ?_ <;> (try (intro hn)))
          | (refine ifB ?_ ?_ <;> (intro hq; try (have hq' := hq; simp only [hqs] at hq'))))
      exact rt1 rfl rfl finS_p rfl
  have d2 : decide (100 < (other.length : Int)) = false := decide_eq_false (by omega)
  by_cases h60 : 60 < m.length
  · have d3 : decide (60 < (m.length : Int)) = true := decide_eq_true (by omega)
    as_aux_lemma =>
      repeat' (first
          | refine rnC ?_
          | refine rnSB ?_
          | refine rnG ?_
          | refine rnU ?_
          | ((fail_if_success (refine rnKn ?_)); refine rnP ?_ ?_ <;> (intro hq; try (have hq' := hq; simp only [hqs] at hq')))
          | refine rkC ?_
          | refine rkSB ?_
          | refine rkF ?_
          | refine rkU ?_
          | ((fail_if_success (refine rkKn ?_)); refine rkP ?_ ?_ <;> (intro hq; try (have hq' := hq; simp only [hqs] at hq')))
          | refine stp ?_
          | refine aws_draws [] mixed (by kernel_rfl) ?_
          | refine ifT ?_
          | refine ifF ?_
          | (refine ifQ ?_ ?_ <;> (try (intro hn)))
          | (refine ifB ?_ ?_ <;> (intro hq; try (have hq' := hq; simp only [hqs] at hq'))))
      exact rt1 rfl rfl finS_p rfl
  have d3 : decide (60 < (m.length : Int)) = false := decide_eq_false (by omega)
  have c1 := right_w v m ey hv.1 (by omega)
  cases hr : rightF v m with
  | false =>
    rw [hr] at c1
    haveI : PC Try.prog 22 [cV v m ey] True (.p (.b false)) := ⟨fun _ => c1⟩
    as_aux_lemma =>
      repeat' (first
          | refine rnC ?_
          | refine rnSB ?_
          | refine rnG ?_
          | refine rnU ?_
          | ((fail_if_success (refine rnKn ?_)); refine rnP ?_ ?_ <;> (intro hq; try (have hq' := hq; simp only [hqs] at hq')))
          | refine rkC ?_
          | refine rkSB ?_
          | refine rkF ?_
          | refine rkU ?_
          | ((fail_if_success (refine rkKn ?_)); refine rkP ?_ ?_ <;> (intro hq; try (have hq' := hq; simp only [hqs] at hq')))
          | refine stp ?_
          | refine aws_draws [] mixed (by kernel_rfl) ?_
          | refine ifT ?_
          | refine ifF ?_
          | (refine ifQ ?_ ?_ <;> (try (intro hn)))
          | (refine ifB ?_ ?_ <;> (intro hq; try (have hq' := hq; simp only [hqs] at hq'))))
      exact rt1 rfl rfl finS_p rfl
  | true =>
  rw [hr] at c1
  haveI : PC Try.prog 22 [cV v m ey] True (.p (.b true)) := ⟨fun _ => c1⟩
  have c2 := pright_w l ex (by omega) hin (fun k hk => by have := (hkd k hk).2; omega)
  cases hR : keysF l with
  | false =>
    rw [hR] at c2
    haveI : PC Try.prog 9 [.p (.sl 10 (l.map kR) ex)] True (.p (.b false)) := ⟨fun _ => c2⟩
    as_aux_lemma =>
      repeat' (first
          | refine rnC ?_
          | refine rnSB ?_
          | refine rnG ?_
          | refine rnU ?_
          | ((fail_if_success (refine rnKn ?_)); refine rnP ?_ ?_ <;> (intro hq; try (have hq' := hq; simp only [hqs] at hq')))
          | refine rkC ?_
          | refine rkSB ?_
          | refine rkF ?_
          | refine rkU ?_
          | ((fail_if_success (refine rkKn ?_)); refine rkP ?_ ?_ <;> (intro hq; try (have hq' := hq; simp only [hqs] at hq')))
          | refine stp ?_
          | refine aws_draws [] mixed (by kernel_rfl) ?_
          | refine ifT ?_
          | refine ifF ?_
          | (refine ifQ ?_ ?_ <;> (try (intro hn)))
          | (refine ifB ?_ ?_ <;> (intro hq; try (have hq' := hq; simp only [hqs] at hq'))))
      exact rt1 rfl rfl finS_p rfl
  | true =>
  rw [hR] at c2
  haveI : PC Try.prog 9 [.p (.sl 10 (l.map kR) ex)] True (.p (.b true)) := ⟨fun _ => c2⟩
  have hok : KOk l := keys_iff.1 hR
  have c3 := with_w l ex (key, (v, m)) ey (by omega) (fun k hk => (hin k hk).key) hk (by show m.length ≤ _; omega)
  dsimp only at c3
  have kM : KOk (withK l key (v, m)) := with_ok hok (by omega) (by omega) hr
  have iM : ∀ k ∈ withK l key (v, m), KdI k := with_all hin (fun e he q => ⟨(hin e he).key, (hin e he).len, hv, hm⟩) ⟨hk, hkl, hv, hm⟩
  have fM : ∀ k ∈ withK l key (v, m), k.2.2.length ≤ 1000000000 := with_all (fun e he => by have := (hkd e he).2; omega) (fun e he q => by show m.length ≤ _; omega) (by show m.length ≤ _; omega)
  have lM := with_len_le l key (v, m)
  have f1 : findK (withK l key (v, m)) key = ((v, m), true) := with_find
  have f2 : other ≠ key → findK (withK l key (v, m)) other = findK l other := fun h => with_other h
  generalize withK l key (v, m) = M at c3 kM iM fM lM f1 f2
  obtain ⟨lM1, lM2⟩ := lM
  haveI : PC Try.prog 23 [.p (.sl 10 (l.map kR) ex), .p (.v (.string (strOf key))), cV v m ey] True (.p (.sl 10 (M.map kR) false)) := ⟨fun _ => c3⟩
  have c4 := find_w M false key (by omega) (fun k hk => (iM k hk).key) hk
  rw [f1] at c4
  haveI : PC Try.prog 12 [.p (.sl 10 (M.map kR) false), .p (.v (.string (strOf key)))] True (.tup [.agg (cL v m false), .one (.p (.b true))]) := ⟨fun _ => c4⟩
  have c5 := pright_w M false (by omega) iM fM
  rw [keys_iff.2 kM] at c5
  haveI : PC Try.prog 9 [.p (.sl 10 (M.map kR) false)] True (.p (.b true)) := ⟨fun _ => c5⟩
  have c6 := same_w v v m m false ey hv.1 hv.1 (by omega)
  rw [show sameF v v m m = true by simp [sameF]] at c6
  haveI : PC Try.prog 14 [cV v m false, cV v m ey] True (.p (.b true)) := ⟨fun _ => c6⟩
  have d4 : decide (1 < (M.length : Int) - (l.length : Int)) = false := decide_eq_false (by omega)
  have d5 : decide ((M.length : Int) < (l.length : Int)) = false := decide_eq_false (by omega)
  clear c0 c1 c2 c3 c4 c5 c6
  by_cases hq : other = key
  · have d6 : decide (other = key) = true := decide_eq_true hq
    as_aux_lemma =>
      repeat' (first
          | refine rnC ?_
          | refine rnSB ?_
          | refine rnG ?_
          | refine rnU ?_
          | ((fail_if_success (refine rnKn ?_)); refine rnP ?_ ?_ <;> (intro hq; try (have hq' := hq; simp only [hqs] at hq')))
          | refine rkC ?_
          | refine rkSB ?_
          | refine rkF ?_
          | refine rkU ?_
          | ((fail_if_success (refine rkKn ?_)); refine rkP ?_ ?_ <;> (intro hq; try (have hq' := hq; simp only [hqs] at hq')))
          | refine stp ?_
          | refine aws_draws [] mixed (by kernel_rfl) ?_
          | refine ifT ?_
          | refine ifF ?_
          | (refine ifQ ?_ ?_ <;> (try (intro hn)))
          | (refine ifB ?_ ?_ <;> (intro hq; try (have hq' := hq; simp only [hqs] at hq'))))
      exact rt1 rfl rfl finS_p rfl
  have d6 : decide (other = key) = false := decide_eq_false hq
  have c7 := find_w l ex other (by omega) (fun k hk => (hin k hk).key) ho
  have c8 := find_w M false other (by omega) (fun k hk => (iM k hk).key) ho
  rw [f2 hq] at c8
  have fl : (findK l other).1.1.length = 8 ∧ (findK l other).1.2.length ≤ 1000000000 := find_of (Q := fun r => r.1.1.length = 8 ∧ r.1.2.length ≤ 1000000000) ⟨rfl, by decide⟩ fun e he => ⟨(hin e he).vec.1, by have := (hkd e he).2; show e.2.2.length ≤ _; omega⟩
  clear f1 f2
  generalize findK l other = r at c7 c8 fl
  obtain ⟨⟨y, ys⟩, b⟩ := r
  dsimp only at c7 c8 fl
  haveI : PC Try.prog 12 [.p (.sl 10 (l.map kR) ex), .p (.v (.string (strOf other)))] True (.tup [.agg (cL y ys false), .one (.p (.b b))]) := ⟨fun _ => c7⟩
  haveI : PC Try.prog 12 [.p (.sl 10 (M.map kR) false), .p (.v (.string (strOf other)))] True (.tup [.agg (cL y ys false), .one (.p (.b b))]) := ⟨fun _ => c8⟩
  have c9 := same_w y y ys ys false false fl.1 fl.1 fl.2
  rw [show sameF y y ys ys = true by simp [sameF]] at c9
  haveI : PC Try.prog 14 [cV y ys false, cV y ys false] True (.p (.b true)) := ⟨fun _ => c9⟩
  clear c7 c8 c9
  cases b with
  | true =>
    as_aux_lemma =>
      repeat' (first
          | refine rnC ?_
          | refine rnSB ?_
          | refine rnG ?_
          | refine rnU ?_
          | ((fail_if_success (refine rnKn ?_)); refine rnP ?_ ?_ <;> (intro hq; try (have hq' := hq; simp only [hqs] at hq')))
          | refine rkC ?_
          | refine rkSB ?_
          | refine rkF ?_
          | refine rkU ?_
          | ((fail_if_success (refine rkKn ?_)); refine rkP ?_ ?_ <;> (intro hq; try (have hq' := hq; simp only [hqs] at hq')))
          | refine stp ?_
          | refine aws_draws [] mixed (by kernel_rfl) ?_
          | refine ifT ?_
          | refine ifF ?_
          | (refine ifQ ?_ ?_ <;> (try (intro hn)))
          | (refine ifB ?_ ?_ <;> (intro hq; try (have hq' := hq; simp only [hqs] at hq'))))
      exact rt1 rfl rfl finS_p rfl
  | false =>
    as_aux_lemma =>
      repeat' (first
          | refine rnC ?_
          | refine rnSB ?_
          | refine rnG ?_
          | refine rnU ?_
          | ((fail_if_success (refine rnKn ?_)); refine rnP ?_ ?_ <;> (intro hq; try (have hq' := hq; simp only [hqs] at hq')))
          | refine rkC ?_
          | refine rkSB ?_
          | refine rkF ?_
          | refine rkU ?_
          | ((fail_if_success (refine rkKn ?_)); refine rkP ?_ ?_ <;> (intro hq; try (have hq' := hq; simp only [hqs] at hq')))
          | refine stp ?_
          | refine aws_draws [] mixed (by kernel_rfl) ?_
          | refine ifT ?_
          | refine ifF ?_
          | (refine ifQ ?_ ?_ <;> (try (intro hn)))
          | (refine ifB ?_ ?_ <;> (intro hq; try (have hq' := hq; simp only [hqs] at hq'))))
      exact rt1 rfl rfl finS_p rfl
end Go.Proofs.Ytbfjcohocedoaaa.Wi
namespace Go.Proofs.Ytbfjcohocedoaaa.Wi
open Go Go.RowKit Go.Aw Go.Aw.Cart Go.Proofs.Ytbfjcohocedoaaa.Ca
set_option linter.unusedVariables false
set_option linter.unusedSimpArgs false
theorem packWith_a (l : List Kd) (k o : List Nat) (x : Crt) (h : l.length ≤ maxLen ∧ ∀ k ∈ l, KdI k) (hk : okB k ∧ k.length ≤ 9223372036854775807) (ho : okB o ∧ o.length ≤ 9223372036854775807) (hx : CIn x) : PCall Try.prog 6 [argAV false [.sl 10 (l.map fun k => kR k) false], argAV false [.v (.string (strOf k))], argAV false [.v (.string (strOf o))], argAV true (cRow x)] (.p (.b true)) := by
  rw [c_arg hx]; exact packWith_w l k o x.1 x.2 false false h.1 h.2 hk.1 hk.2 ho.1 ho.2 ⟨hx.v8, hx.vb⟩ hx.len
end Go.Proofs.Ytbfjcohocedoaaa.Wi
