/- packs in plain Lean: bytes are read in one way alone; messages in plain Lean: there and back, in one way alone; messages, the law ProtoBack: there and back; messages, the law ProtoBack: what lives; messages, the law ProtoBack: alive; messages, the law ProtoBack; messages: reading them; ProtoBack over what was read; joins: vectors joined; entries found; which carts clash -/
import Derived.Test.YtclcfjejpogdlaaGreatIB21
import Derived.Test.YtclcfjejpogdlaaGreatIB36
import Derived.Test.YtclcfjejpogdlaaGreatIB37
import Derived.Test.YtclcfjejpogdlaaGreatIB25
import Derived.Test.YtclcfjejpogdlaaGreatIB26
import Derived.Test.YtclcfjejpogdlaaGreatIB23
import Derived.Test.YtclcfjejpogdlaaGreatIB13
import Derived.Test.YtclcfjejpogdlaaGreatIB09
namespace Go.Proofs.YtclcfjejpogdlaaGreat.Wi
open Go Go.RowKit Go.Aw Go.Aw.Cart Go.Proofs.YtclcfjejpogdlaaGreat.Ca
set_option linter.unusedVariables false
set_option linter.unusedSimpArgs false
theorem bind_inv {α β : Type} {P : RS → α × RS} {Q : α → RS → β × RS} (hQ : ∀ a, Par (Q a)) {l : List Nat} {y : β} {rest : List Nat} (h : bindS P Q (l, 0) = (y, (rest, 0))) : ∃ a m, P (l, 0) = (a, (m, 0)) ∧ Q a (m, 0) = (y, (rest, 0)) := by
  have h0 : Q (P (l, 0)).1 (P (l, 0)).2 = (y, (rest, 0)) := h
  by_cases he : (P (l, 0)).2.2 = 0
  · refine ⟨(P (l, 0)).1, (P (l, 0)).2.1, Prod.ext rfl (Prod.ext rfl he), ?_⟩
    have e : ((P (l, 0)).2.1, (0 : Int)) = (P (l, 0)).2 := Prod.ext rfl he.symm
    rw [e]
    exact h0
  · have := (hQ (P (l, 0)).1).bad _ he
    rw [h0] at this
    exact absurd (by rw [← this]) he
theorem pure_inv {α : Type} {a y : α} {l rest : List Nat} (h : pureS a (l, 0) = (y, (rest, 0))) : y = a ∧ rest = l := by
  unfold pureS at h
  obtain ⟨h1, h⟩ := Prod.mk.inj h
  obtain ⟨h2, -⟩ := Prod.mk.inj h
  exact ⟨h1.symm, h2.symm⟩
theorem ok_inv {α : Type} {a z y : α} {l rest : List Nat} (h : okS a z (l, 0) = (y, (rest, 0))) : y = a ∧ rest = l := by
  unfold okS at h
  obtain ⟨h1, h⟩ := Prod.mk.inj h
  obtain ⟨h2, -⟩ := Prod.mk.inj h
  rw [if_pos rfl] at h1
  exact ⟨h1.symm, h2.symm⟩
theorem must_inv {b : Bool} {u : Unit} {l rest : List Nat} (h : mustU b (l, 0) = (u, (rest, 0))) : b = true ∧ rest = l := by
  unfold mustU mustS at h
  cases b with
  | true =>
    rw [if_neg (by simp)] at h
    obtain ⟨-, h⟩ := Prod.mk.inj h
    obtain ⟨h2, -⟩ := Prod.mk.inj h
    exact ⟨rfl, h2.symm⟩
  | false =>
    rw [if_pos ⟨rfl, rfl⟩] at h
    have := congrArg (fun x => x.2.2) h
    exact absurd (show (3 : Int) = 0 from this) (by decide)
theorem take_inv {n : Nat} {x l rest : List Nat} (h : takeS n (l, 0) = (x, (rest, 0))) : l = x ++ rest ∧ x.length = n := by
  unfold takeS at h
  rw [if_neg (by simp)] at h
  dsimp only at h
  by_cases hl : l.length < n
  · rw [if_pos hl] at h
    have := congrArg (fun x => x.2.2) h
    exact absurd (show (8 : Int) = 0 from this) (by decide)
  · rw [if_neg hl] at h
    obtain ⟨h1, h⟩ := Prod.mk.inj h
    obtain ⟨h2, -⟩ := Prod.mk.inj h
    rw [← h1, ← h2, List.take_append_drop]
    exact ⟨rfl, by rw [List.length_take]; omega⟩
section
attribute [local irreducible] bindS smallS numZ intS pureS manyS vecS mustU okS textS entS
end
section
attribute [local irreducible] bindS smallS numZ intS pureS manyS vecS mustU okS textS entS cartS
end
end Go.Proofs.YtclcfjejpogdlaaGreat.Wi
namespace Go.Proofs.YtclcfjejpogdlaaGreat.Wi
open Go Go.RowKit Go.Aw Go.Aw.Cart Go.Aw.Tree Go.Proofs.YtclcfjejpogdlaaGreat.Ca Go.Proofs.YtclcfjejpogdlaaGreat.Rg
set_option linter.unusedVariables false
set_option linter.unusedSimpArgs false
theorem dig_back {d : List Nat} (h : d.length = 32) (q : List Nat) : digS (d ++ q, 0) = (d, (q, 0)) := by
  have e : takeS 32 (d ++ q, 0) = (d, (q, 0)) := by
    unfold takeS
    rw [if_neg (by simp), if_neg (by rw [List.length_append]; omega)]
    dsimp only
    rw [List.take_append_of_le_length (by omega), List.drop_append_of_le_length (by omega), List.take_of_length_le (by omega), List.drop_of_length_le (by omega), List.nil_append]
  simp only [digS, bindS, pureS, e, h, if_true]
theorem hd_back {m : Msg} (h : MOk m) (q : List Nat) : hdS ((headM m).flatMap numI ++ q, 0) = ((m.kind, m.frm, m.to, m.ses, m.part), (q, 0)) := by
  have k1 := h.kind
  have k2 := h.frm
  have k3 := h.to
  have k4 := h.ses
  have k5 := h.part
  have e : (headM m).flatMap numI ++ q = numI m.kind ++ (numI m.frm ++ (numI m.to ++ (numI m.ses ++ (numI m.part ++ q)))) := by
    unfold headM
    simp only [List.flatMap_cons, List.flatMap_nil, List.append_nil, List.append_assoc]
  rw [e]
  simp only [hdS, bindS, pureS, smallI_back (n := m.kind) (most := 7) (by omega) (by omega) (by decide), smallI_back (n := m.frm) (most := 8) (by omega) (by omega) (by decide), smallI_back (n := m.to) (most := 8) (by omega) (by omega) (by decide), smallI_back (n := m.ses) (most := 1099511627776) (by omega) (by omega) (by decide), smallI_back (n := m.part) (most := 7) (by omega) (by omega) (by decide)]
theorem lst_back {m : Msg} (h : MOk m) (hg : ∀ d ∈ m.dgs, d.length = 32) (q : List Nat) : lstS (numB m.pls.length ++ (m.pls.flatMap numI ++ (numB m.dgs.length ++ (m.dgs.flatMap id ++ q))), 0) = ((m.pls, m.dgs), (q, 0)) := by
  have k1 := h.pl
  have k2 := h.dl
  have a1 := all_back (P := smallS 20) (enc := numI) (L := m.pls) (fun a ha q => smallI_back (h.pls a ha).1 (h.pls a ha).2 (by decide) q) (numB m.dgs.length ++ (m.dgs.flatMap id ++ q)) m.pls.length (Nat.le_refl _)
  have a2 := all_back (P := digS) (enc := (id : List Nat → List Nat)) (L := m.dgs) (fun a ha q => dig_back (hg a ha) q) q m.dgs.length (Nat.le_refl _)
  rw [List.take_length, List.drop_length, List.flatMap_nil, List.nil_append] at a1 a2
  exact lst_at (small_back (x := m.pls.length) (most := 16) (by omega) (by decide) _) a1 (small_back (x := m.dgs.length) (most := 16) (by omega) (by decide) _) a2
theorem pre_back {m : Msg} (h : MOk m) (hd : m.dig.length = 32) (hg : ∀ d ∈ m.dgs, d.length = 32) (q : List Nat) : preS (msgH m ++ q, 0) = ({ m with kds := [] }, (q, 0)) := by
  have e1 := hd_back h ((if m.kind = 1 then m.dig else []) ++ (numB m.pls.length ++ (m.pls.flatMap numI ++ (numB m.dgs.length ++ (m.dgs.flatMap id ++ q)))))
  have e2 : dgS m.kind ((if m.kind = 1 then m.dig else []) ++ (numB m.pls.length ++ (m.pls.flatMap numI ++ (numB m.dgs.length ++ (m.dgs.flatMap id ++ q)))), 0) = (m.dig, (numB m.pls.length ++ (m.pls.flatMap numI ++ (numB m.dgs.length ++ (m.dgs.flatMap id ++ q))), 0)) := by
    unfold dgS
    by_cases k : m.kind = 1
    · rw [if_pos k, if_pos k]; exact dig_back hd _
    · rw [if_neg k, if_neg k]
      have : m.dig = zeroD := by
        have := h.own
        have e : m.dig = (ownM m).dig := by rw [← this]
        rw [e]; unfold ownM; dsimp only; rw [if_neg k]
      rw [this]; rfl
  have e3 := lst_back h hg q
  have e : msgH m ++ q = (headM m).flatMap numI ++ ((if m.kind = 1 then m.dig else []) ++ (numB m.pls.length ++ (m.pls.flatMap numI ++ (numB m.dgs.length ++ (m.dgs.flatMap id ++ q))))) := by
    unfold msgH
    simp only [List.append_assoc]
  rw [e]
  simp only [preS, bindS, pureS, e1, e2, e3]
theorem kds_again (m : Msg) : ({ ({ m with kds := [] } : Msg) with kds := m.kds } : Msg) = m := rfl
theorem mread_back {m : Msg} (h : MIn m) (hr : rightM m = true) : readM (msgB m) = (m, 0) := by
  have ok := right_ok hr
  have e := pre_back ok h.d32 (fun d hd => (h.dg d hd).1) (listB m.kds)
  have eL := readL_back (keys_iff.1 ok.kds) fun k hk => (h.kd k hk).vec
  unfold readM
  rw [show msgB m = msgH m ++ listB m.kds from rfl, e]
  dsimp only
  rw [eL, kds_again, hr, if_neg (by simp)]
theorem readM_cases (b : List Nat) : ((readM b).1 = zeroM ∧ (readM b).2 = 3) ∨ ((preS (b, 0)).2.2 = 0 ∧ (readL (preS (b, 0)).2.1).2 = 0 ∧ rightM { (preS (b, 0)).1 with kds := (readL (preS (b, 0)).2.1).1 } = true ∧ readM b = ({ (preS (b, 0)).1 with kds := (readL (preS (b, 0)).2.1).1 }, 0)) := by
  unfold readM
  split
  · exact .inl ⟨rfl, rfl⟩
  · rename_i hn
    refine .inr ⟨?_, ?_, ?_, rfl⟩
    · exact Decidable.not_not.1 fun q => hn (.inl q)
    · exact Decidable.not_not.1 fun q => hn (.inr (.inl q))
    · cases q : rightM { (preS (b, 0)).1 with kds := (readL (preS (b, 0)).2.1).1 } with
      | true => rfl
      | false => exact absurd (.inr (.inr q)) hn
section
attribute [local irreducible] preS readL
theorem zeroM_in : MIn zeroM := ⟨rfl, fun c hc => by rw [List.eq_of_mem_replicate hc]; decide, by decide, by decide, fun d hd => (by cases hd), by decide, fun d hd => (by cases hd), fun d hd => (by cases hd)⟩
theorem pre_in {b : List Nat} (hb : okB b) (hl : b.length ≤ 1000000000) : (preS (b, 0)).1.dig.length = 32 ∧ okB (preS (b, 0)).1.dig ∧ (preS (b, 0)).1.pls.length ≤ 16 ∧ (preS (b, 0)).1.dgs.length ≤ 16 ∧ ∀ d ∈ (preS (b, 0)).1.dgs, d.length = 32 ∧ okB d := by
  have o0 : rdOk (b, 0) := ⟨hb, hl⟩
  obtain ⟨x, r1, h1⟩ := pr_ex (hdS (b, 0))
  have o1 : rdOk r1 := by have := par_hd.rd o0; rwa [h1] at this
  obtain ⟨d, r2, h2⟩ := pr_ex (dgS x.1 r1)
  have o2 : rdOk r2 := by have := (par_dg x.1).rd o1; rwa [h2] at this
  have f1 := dgS_fit x.1 r1 o1
  rw [h2] at f1
  have f2 := lst_fit r2 o2
  have e : preS (b, 0) = (⟨x.1, x.2.1, x.2.2.1, x.2.2.2.1, x.2.2.2.2, d, (lstS r2).1.1, (lstS r2).1.2, []⟩, (lstS r2).2) := by
    simp only [preS, bindS, pureS, h1, h2]
  rw [e]
  exact ⟨f1.1, f1.2, f2.1, f2.2.1, f2.2.2⟩
theorem readM_in {b : List Nat} (hb : okB b) (hl : b.length ≤ 1000000000) : MIn (readM b).1 := by
  rcases readM_cases b with ⟨k, -⟩ | ⟨-, -, -, k4⟩
  · rw [k]; exact zeroM_in
  · rw [k4]
    obtain ⟨f1, f2, f3, f4, f5⟩ := pre_in hb hl
    have suf := par_pre.suf (b, 0)
    have hbr : okB (preS (b, 0)).2.1 := fun c hc => hb c (suf.subset hc)
    have hlr : (preS (b, 0)).2.1.length ≤ 1000000000 := Nat.le_trans suf.length_le hl
    obtain ⟨-, g1, g2⟩ := readL_ok (preS (b, 0)).2.1 hbr hlr
    exact ⟨f1, f2, by show (preS (b, 0)).1.pls.length ≤ _; omega, by show (preS (b, 0)).1.dgs.length ≤ _; omega, f5, by show (readL (preS (b, 0)).2.1).1.length ≤ _; omega, fun k hk => (g2 k hk).1, fun k hk => by have := (g2 k hk).2; omega⟩
end
section
attribute [local irreducible] preS readL readM listB msgH rightM
end
theorem msgB_ok {m : Msg} (h : MIn m) : okB (msgB m) := by
  unfold msgB msgH
  refine okB_app (okB_app (okB_flat fun n _ => numB_ok _) (okB_app ?_ (okB_app (numB_ok _) (okB_app (okB_flat fun n _ => numB_ok _) (okB_app (numB_ok _) (okB_flat fun d hd => (h.dg d hd).2)))))) (listB_ok fun k hk => (h.kd k hk).key)
  split
  · exact h.dok
  · exact fun c hc => by cases hc
end Go.Proofs.YtclcfjejpogdlaaGreat.Wi
namespace Go.Proofs.YtclcfjejpogdlaaGreat.Wi
open Go Go.RowKit Go.Aw Go.Aw.Cart Go.Aw.Tree Go.Proofs.YtclcfjejpogdlaaGreat.Ca Go.Proofs.YtclcfjejpogdlaaGreat.Rg
set_option linter.unusedVariables false
set_option linter.unusedSimpArgs false
set_option maxRecDepth 8000
set_option maxHeartbeats 4000000
/-- what Go can hold -/
structure MGo (m : Msg) : Prop where
  d32 : m.dig.length = 32
  dok : okB m.dig
  pl : m.pls.length ≤ 9223372036854775807
  dl : m.dgs.length ≤ 9223372036854775807
  dg : ∀ d ∈ m.dgs, d.length = 32 ∧ okB d
  kl : m.kds.length ≤ 9223372036854775807
  kd : ∀ k ∈ m.kds, KdI k
def greatM (m : Msg) : Bool := decide (60 < (m.pls.length : Int)) || (decide (60 < (m.dgs.length : Int)) || greatL m.kds)
theorem min_of {m : Msg} (h : MGo m) (hg : greatM m = false) : MIn m ∧ m.pls.length ≤ 60 ∧ m.dgs.length ≤ 60 ∧ greatL m.kds = false := by
  unfold greatM at hg
  rw [Bool.or_eq_false_iff, Bool.or_eq_false_iff, decide_eq_false_iff_not, decide_eq_false_iff_not] at hg
  obtain ⟨h1, h2, h3⟩ := hg
  obtain ⟨g1, g2⟩ := greatL_no h3
  exact ⟨⟨h.d32, h.dok, by omega, by omega, h.dg, by omega, h.kd, fun k hk => by have := (g2 k hk).2; omega⟩, by omega, by omega, h3⟩
/-- what hangs on no block: a struct beside a value -/
theorem rvm_sl0 {es : Nat} {ex : Bool} : ∀ μ X Y v, AC.holds μ X (.p (.sl es [] ex)) v → AC.holds μ Y (.p (.sl es [] ex)) v := by
  rintro μ X Y v ⟨base, cap, h1, h2, h3, h4, h5⟩
  refine ⟨base, cap, h1, h2, h3, h4, ?_⟩
  cases base with
  | none => exact h5
  | some ad => exact .inl rfl
theorem rvm_t2 {cs : List AC} {c : AC} (h : ∀ x ∈ cs, ∀ μ X Y v, AC.holds μ X x v → AC.holds μ Y x v) (k : ∀ μ X Y v, AC.holds μ X c v → AC.holds μ Y c v) : RV (.tup [.agg cs, .one c]) := by
  rintro μ X Y v ⟨arr, rfl, h1⟩
  refine ⟨arr, rfl, h1.1, fun i q x hq hx => ?_⟩
  have hh := h1.2 i q x hq hx
  match i, hq with
  | 0, hq =>
    obtain rfl := Option.some.inj hq
    obtain ⟨a2, rfl, h2⟩ := hh
    exact ⟨a2, rfl, h2.1, fun j y z hy hz => h y (List.mem_of_getElem? hy) μ X Y z (h2.2 j y z hy hz)⟩
  | 1, hq =>
    obtain rfl := Option.some.inj hq
    exact k μ X Y x hh
theorem rvm_none : RV (.tup [.agg (mL zeroM), .one (.p (.i 3))]) := by
  refine rvm_t2 (fun x hx => ?_) fun _ _ _ _ h => h
  simp only [mL, zeroM, List.mem_append, List.mem_cons, List.mem_map, List.not_mem_nil, or_false] at hx
  rcases hx with rfl | rfl | rfl | rfl | rfl | ⟨n, _, rfl⟩ | rfl | rfl | rfl
  all_goals first | exact rvm_sl0 | exact fun _ _ _ _ h => h
namespace V1
theorem lopC {C : Ctx} {o : Oper} {σ : St} {e : Eff} {ro : Nat → Bool} (h : LOp C o σ e ro := by
    first | (apply lop_bz; (focus rfl); (focus exact inferInstance); (focus exact inferInstance); (focus exact inferInstance); (focus rfl); (focus rfl); (focus rfl)) | (apply lop_lend1; (focus rfl); (focus exact inferInstance); (focus rfl); (focus rfl); (focus rfl); (focus exact (List.length_map ..).symm); (focus exact inferInstance); (focus first | exact True.intro | assumption | rfl | omega | ((repeat' (first | assumption | refine And.intro ?_ ?_ | omega | rfl)); done) | fail); (focus exact rvm_none); (focus rfl)) | exact T4.lopC | fail) : LOp C o σ e ro := h
section steps
variable {C : Ctx} {ops : Array Oper} {o : Oper} {rest : List Oper} {K : St → Prop} {σ : St} {e : Eff} {ro : Nat → Bool} {W : List (Nat × Nat)} {i : Nat}
theorem rnC {d : Nat} (hk : RunN C ops rest K (e.app (some d) σ)) (hg : Guard ops σ o true := by first | exact gd_n rfl rfl | exact gd_t rfl rfl rfl rfl | exact gd_t rfl rfl rfl (by assumption)) (hd : o.dst = some d := by rfl) (h : LOp C o σ e ro := by exact lopC) : RunN C ops (o :: rest) K σ := rn_any hg hd h hk
end steps
end V1
open V1
theorem great26_w (m : Msg) (h : MGo m) : PCall Tryz.prog 23 [mV m] (.p (.b (greatM m))) := by
  refine pcall_of Tryz.func23 rfl (fun w0 F S0 M0 => ?_)
  have h32 : (m.dig.map bcD).length = 32 := by rw [List.length_map]; exact h.d32
  have c1 := pgreat_w m.kds false h.kl
  unfold greatM
  generalize greatL m.kds = G at c1 ⊢
  haveI : PC Tryz.prog 15 [.p (.sl 10 (m.kds.map kR) false)] True (.p (.b G)) := ⟨fun _ => c1⟩
  cases d1 : decide (60 < (m.pls.length : Int)) with
  | true =>
    rw [Bool.true_or]
    as_aux_lemma =>
      repeat' (first | refine rnC ?_ | refine rnSB ?_ | refine rnG ?_ | refine rnU ?_ | ((fail_if_success (refine rnKn ?_)); refine rnP ?_ ?_ <;> (intro hq; try (have hq' := hq; simp only [hqs] at hq'))) | refine rkC ?_ | refine rkSB ?_ | refine rkF ?_ | refine rkU ?_ | ((fail_if_success (refine rkKn ?_)); refine rkP ?_ ?_ <;> (intro hq; try (have hq' := hq; simp only [hqs] at hq'))) | refine stp ?_ | refine ifT ?_ | refine ifF ?_ | (refine ifQ ?_ ?_ <;> (try (intro hn))) | (refine ifB ?_ ?_ <;> (intro hq; try (have hq' := hq; simp only [hqs] at hq'))))
      exact rt1 rfl rfl finS_p rfl
  | false =>
    rw [Bool.false_or]
    cases d2 : decide (60 < (m.dgs.length : Int)) with
    | true =>
      rw [Bool.true_or]
      as_aux_lemma =>
        repeat' (first | refine rnC ?_ | refine rnSB ?_ | refine rnG ?_ | refine rnU ?_ | ((fail_if_success (refine rnKn ?_)); refine rnP ?_ ?_ <;> (intro hq; try (have hq' := hq; simp only [hqs] at hq'))) | refine rkC ?_ | refine rkSB ?_ | refine rkF ?_ | refine rkU ?_ | ((fail_if_success (refine rkKn ?_)); refine rkP ?_ ?_ <;> (intro hq; try (have hq' := hq; simp only [hqs] at hq'))) | refine stp ?_ | refine ifT ?_ | refine ifF ?_ | (refine ifQ ?_ ?_ <;> (try (intro hn))) | (refine ifB ?_ ?_ <;> (intro hq; try (have hq' := hq; simp only [hqs] at hq'))))
        exact rt1 rfl rfl finS_p rfl
    | false =>
      rw [Bool.false_or]
      as_aux_lemma =>
        repeat' (first | refine rnC ?_ | refine rnSB ?_ | refine rnG ?_ | refine rnU ?_ | ((fail_if_success (refine rnKn ?_)); refine rnP ?_ ?_ <;> (intro hq; try (have hq' := hq; simp only [hqs] at hq'))) | refine rkC ?_ | refine rkSB ?_ | refine rkF ?_ | refine rkU ?_ | ((fail_if_success (refine rkKn ?_)); refine rkP ?_ ?_ <;> (intro hq; try (have hq' := hq; simp only [hqs] at hq'))) | refine stp ?_ | refine ifT ?_ | refine ifF ?_ | (refine ifQ ?_ ?_ <;> (try (intro hn))) | (refine ifB ?_ ?_ <;> (intro hq; try (have hq' := hq; simp only [hqs] at hq'))))
        exact rt1 rfl rfl finS_p rfl
end Go.Proofs.YtclcfjejpogdlaaGreat.Wi
namespace Go.Aw
set_option linter.unusedVariables false
section ops
variable {C : Ctx} {o : Oper} {σ : St}
end ops
end Go.Aw
namespace Go.Proofs.YtclcfjejpogdlaaGreat.Wi
open Go Go.RowKit Go.Aw Go.Aw.Cart Go.Aw.Tree Go.Proofs.YtclcfjejpogdlaaGreat.Ca Go.Proofs.YtclcfjejpogdlaaGreat.Rg
set_option linter.unusedVariables false
set_option linter.unusedSimpArgs false
set_option maxRecDepth 8000
set_option maxHeartbeats 4000000
end Go.Proofs.YtclcfjejpogdlaaGreat.Wi
namespace Go.Proofs.YtclcfjejpogdlaaGreat.Wi
open Go Go.RowKit Go.Aw Go.Aw.Cart Go.Aw.Tree Go.Proofs.YtclcfjejpogdlaaGreat.Ca Go.Proofs.YtclcfjejpogdlaaGreat.Rg
set_option linter.unusedVariables false
set_option linter.unusedSimpArgs false
set_option maxRecDepth 8000
set_option maxHeartbeats 4000000
open V1
end Go.Proofs.YtclcfjejpogdlaaGreat.Wi
namespace Go.Proofs.YtclcfjejpogdlaaGreat.Wi
open Go Go.RowKit Go.Aw Go.Aw.Cart Go.Aw.Tree Go.Proofs.YtclcfjejpogdlaaGreat.Ca Go.Proofs.YtclcfjejpogdlaaGreat.Rg
set_option linter.unusedVariables false
set_option linter.unusedSimpArgs false
set_option maxRecDepth 8000
set_option maxHeartbeats 4000000
attribute [local irreducible] readM msgB rightM sameM greatM zeroM
open V1
end Go.Proofs.YtclcfjejpogdlaaGreat.Wi
namespace Go.Proofs.YtclcfjejpogdlaaGreat.Wi
open Go Go.RowKit Go.Aw Go.Aw.Cart Go.Aw.Tree Go.Proofs.YtclcfjejpogdlaaGreat.Ca Go.Proofs.YtclcfjejpogdlaaGreat.Rg
set_option linter.unusedVariables false
set_option maxRecDepth 8000
theorem rd_digP : Reads Tryz.prog 31 (List Nat) dRw (fun d => d.length = 32 ∧ okB d) :=
  (reads_array (α := Int) (row := fun n => [PVal.k .u8 n]) (ok := fun n => IntKind.u8.min ≤ n ∧ n ≤ IntKind.u8.max) (inferInstance : TI Tryz.prog 31 _ _ _) (inferInstance : TI Tryz.prog 5 _ _ _) rfl (reads_int inferInstance)).imp' (fun l => l.map Int.toNat)
    (fun l h => by
      have e : dRw (l.map Int.toNat) = l.map fun n => PVal.k .u8 n := u8s_map (f := fun n => PVal.k .u8 n) h.2
      rw [e]
      clear h e
      induction l with
      | nil => rfl
      | cons b l ih => simp [ih]) (fun l h => ⟨by simpa using h.1, u8s_ok h.2⟩)
theorem rd_digsP : Reads Tryz.prog 41 (List (List Nat)) (fun l => [.sl 32 (l.map dRw) false]) (fun l => l.length ≤ maxLen ∧ ∀ d ∈ l, d.length = 32 ∧ okB d) :=
  reads_slice inferInstance inferInstance (by decide) rd_digP
theorem rd_intsP : Reads Tryz.prog 33 (List Int) (fun l => [.sl 1 (l.map iRw) false]) (fun l => l.length ≤ maxLen ∧ ∀ n ∈ l, IntKind.i64.min ≤ n ∧ n ≤ IntKind.i64.max) :=
  reads_slice inferInstance inferInstance (by decide) (reads_int inferInstance)
theorem lenM {α : Type} {l : List α} (h : l.length ≤ maxLen) : l.length ≤ 9223372036854775807 := by simpa [maxLen] using h
def mRow (m : Msg) : List PVal := [PVal.i m.kind, PVal.i m.frm, PVal.i m.to, PVal.i m.ses, PVal.i m.part] ++ (dRw m.dig ++ [.sl 1 (m.pls.map iRw) false, .sl 32 (m.dgs.map dRw) false, .sl 10 (m.kds.map kR) false])
def toM (x : Int × Int × Int × Int × Int × List Nat × List Int × List (List Nat) × List Kd × Unit) : Msg := ⟨x.1, x.2.1, x.2.2.1, x.2.2.2.1, x.2.2.2.2.1, x.2.2.2.2.2.1, x.2.2.2.2.2.2.1, x.2.2.2.2.2.2.2.1, x.2.2.2.2.2.2.2.2.1⟩
theorem rd_msg : Reads Tryz.prog 43 Msg mRow MGo :=
  (reads_struct (inferInstance : TI Tryz.prog 43 _ _ _)
    (readsFs_cons (inferInstance : TI Tryz.prog 3 _ _ _) Ca.rd_int (readsFs_cons (inferInstance : TI Tryz.prog 3 _ _ _) Ca.rd_int (readsFs_cons (inferInstance : TI Tryz.prog 3 _ _ _) Ca.rd_int (readsFs_cons (inferInstance : TI Tryz.prog 3 _ _ _) Ca.rd_int (readsFs_cons (inferInstance : TI Tryz.prog 3 _ _ _) Ca.rd_int
    (readsFs_cons (inferInstance : TI Tryz.prog 31 _ _ _) rd_digP (readsFs_cons (inferInstance : TI Tryz.prog 33 _ _ _) rd_intsP (readsFs_cons (inferInstance : TI Tryz.prog 41 _ _ _) rd_digsP (readsFs_cons (inferInstance : TI Tryz.prog 22 _ _ _) rd_kds (readsFs_nil rfl))))))))))).imp'
    toM (fun x _ => rfl) (fun x h => by
      obtain ⟨_, _, _, _, _, h6, h7, h8, h9, _⟩ := h
      exact ⟨h6.1, h6.2, lenM h7.1, lenM h8.1, h8.2, lenM h9.1, h9.2⟩)
theorem m_arg (m : Msg) : argAV true (mRow m) = mV m := by
  show AV.a ((mRow m).map .p) = _
  unfold mRow
  simp only [List.map_cons, List.map_append, List.map_nil, List.cons_append, List.nil_append]
  show AV.a (_ :: _ :: _ :: _ :: _ :: ((m.dig.map _).map _ ++ _)) = _
  rw [List.map_map]; rfl
end Go.Proofs.YtclcfjejpogdlaaGreat.Wi
namespace Go.Proofs.YtclcfjejpogdlaaGreat.Ca
open Go Go.RowKit Go.Aw Go.Aw.Cart Go.Aw.Ord Go.Sort
set_option linter.unusedVariables false
set_option linter.unusedSimpArgs false
set_option maxRecDepth 8000
set_option maxHeartbeats 4000000
abbrev cR (v : List Int) (l : List Ent) (ex : Bool) : List PVal := [.k .u64 (v.getD 0 default), .k .u64 (v.getD 1 default), .k .u64 (v.getD 2 default), .k .u64 (v.getD 3 default), .k .u64 (v.getD 4 default), .k .u64 (v.getD 5 default), .k .u64 (v.getD 6 default), .k .u64 (v.getD 7 default), .sl 4 (l.map eR) ex]
abbrev v8L (v : List Int) : List AC := [.p (.k .u64 (v.getD 0 default)), .p (.k .u64 (v.getD 1 default)), .p (.k .u64 (v.getD 2 default)), .p (.k .u64 (v.getD 3 default)), .p (.k .u64 (v.getD 4 default)), .p (.k .u64 (v.getD 5 default)), .p (.k .u64 (v.getD 6 default)), .p (.k .u64 (v.getD 7 default))]
/-! vectors -/
namespace J1
end J1
open J1
/-! entries -/
/-! which clash -/
end Go.Proofs.YtclcfjejpogdlaaGreat.Ca
