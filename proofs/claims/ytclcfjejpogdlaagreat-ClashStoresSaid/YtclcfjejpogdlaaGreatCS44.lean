/- clashes, the laws: fixed calls; clashes, the law ClashStores: the walk of two lists' trees tells the leaves whose buckets are unlike, or there is a clash; carts: how the arguments of the laws read -/
import Derived.Test.YtclcfjejpogdlaaGreatCS43
import Derived.Test.YtclcfjejpogdlaaGreatCS38
import Derived.Test.YtclcfjejpogdlaaGreatCS21
import Derived.Test.YtclcfjejpogdlaaGreatCS28
namespace Go.Proofs.YtclcfjejpogdlaaGreat.Clk
open Go Go.RowKit Go.Aw Go.Aw.Sha Go.Aw.Tree Go.Aw.Clash Go.Proofs.YtclcfjejpogdlaaGreat.Sh Go.Proofs.YtclcfjejpogdlaaGreat.Tr Go.Proofs.YtclcfjejpogdlaaGreat.Cl
set_option linter.unusedVariables false
set_option linter.unusedSimpArgs false
set_option maxRecDepth 8000
attribute [local irreducible] sum
set_option maxHeartbeats 4000000
theorem ent_cells' {cs ds : List AC} (h : All2 (fun c d => ∀ μ X v, AC.holds μ X c v → AC.holds Mu.none X d v) cs ds) : Ent (.a cs) (.a ds) := by
  rintro μ X v ⟨arr, rfl, h1⟩
  refine ⟨arr, rfl, h.1.symm.trans h1.1, fun i d x hd hx => ?_⟩
  have hi : i < cs.length := by rw [h.1]; exact (List.getElem?_eq_some_iff.1 hd).1
  have hc : cs[i]? = some cs[i] := List.getElem?_eq_getElem hi
  exact h.2 i _ d hc hd _ _ _ (h1.2 i _ x hc hx)
theorem ent_nil' : ∀ μ X v, AC.holds μ X (.p (.v (.slice none 0 0))) v → AC.holds Mu.none X (.p (bytesP [] false)) v := by
  rintro μ X v h2
  exact ⟨none, 0, h2.1, Nat.le_refl _, by simp [maxLen], by simp, rfl, rfl⟩
abbrev aF : AV := .a [.p (.v (.slice none 0 0)), .p (.v (.slice none 0 0)), .p (.v (.slice none 0 0)), .p (.v (.slice none 0 0)), .p (.v (.slice none 0 0)), .p (.v (.slice none 0 0)), .p (.v (.slice none 0 0)), .p (.v (.slice none 0 0)), .p (.v (.slice none 0 0)), .p (.v (.slice none 0 0)), .p (.v (.slice none 0 0)), .p (.v (.slice none 0 0)), .p (.v (.slice none 0 0)), .p (.v (.slice none 0 0)), .p (.v (.slice none 0 0)), .p (.v (.slice none 0 0))]
abbrev bF : AV := .a [.p (.v (.slice none 0 0)), .p (.v (.slice none 0 0)), .p (.v (.slice none 0 0)), .p (.sl 1 [[.v (.int .u8 120)]] false), .p (.v (.slice none 0 0)), .p (.v (.slice none 0 0)), .p (.v (.slice none 0 0)), .p (.v (.slice none 0 0)), .p (.v (.slice none 0 0)), .p (.v (.slice none 0 0)), .p (.v (.slice none 0 0)), .p (.v (.slice none 0 0)), .p (.v (.slice none 0 0)), .p (.v (.slice none 0 0)), .p (.v (.slice none 0 0)), .p (.v (.slice none 0 0))]
theorem EA : Ent aF (txs fixA) := by
  refine ent_cells' ?_
  repeat' (first | exact All2.nil | refine All2.cons ?_ ?_ | exact ent_nil' | exact fun _ _ _ h => h)
theorem EB : Ent bF (txs fixB) := by
  refine ent_cells' ?_
  repeat' (first | exact All2.nil | refine All2.cons ?_ ?_ | exact ent_nil' | exact fun _ _ _ h => h)
theorem lopC {C : Ctx} {o : Oper} {σ : St} {e : Eff} {ro : Nat → Bool} (h : LOp C o σ e ro := by
    first | (apply lop_eqls; (focus rfl); (focus exact inferInstance); (focus rfl); (focus rfl); (focus rfl)) | exact lop_call rfl (.cons EA (.cons EB .nil)) (by assumption) rfl | exact lop_call rfl (.cons EA (.cons EA .nil)) (by assumption) rfl | exact lop_call rfl (.cons EB (.cons Ent.p .nil)) (by assumption) rfl | exact lop_call rfl (.cons EA (.cons Ent.p .nil)) (by assumption) rfl | (apply lop_bo1k (.int .u8 120); (focus rfl); (focus rfl); (focus rfl); (focus exact inferInstance); (focus exact inferInstance); (focus exact inferInstance); (focus rfl); (focus rfl); (focus rfl)) | (apply lop_cv_bb; (focus rfl); (focus exact inferInstance); (focus exact inferInstance); (focus rfl); (focus rfl); (focus rfl); (focus rfl); (focus decide); (focus rfl)) | exact lopB | fail) : LOp C o σ e ro := h
section steps
variable {C : Ctx} {ops : Array Oper} {o : Oper} {rest : List Oper} {K : St → Prop} {σ : St} {e : Eff} {ro : Nat → Bool} {W : List (Nat × Nat)} {i : Nat}
theorem rnC {d : Nat} (hk : RunN C ops rest K (e.app (some d) σ)) (hg : Guard ops σ o true := by first | exact gd_n rfl rfl | exact gd_t rfl rfl rfl rfl | exact gd_t rfl rfl rfl (by assumption)) (hd : o.dst = some d := by rfl) (h : LOp C o σ e ro := by exact lopC) : RunN C ops (o :: rest) K σ := rn_any hg hd h hk
end steps
theorem alive_w : PCall Tryz.prog 16 [] (.p (.b true)) := by
  refine pcall_of Tryz.func16 rfl (fun w0 F S0 M0 => ?_)
  have c1 := extract_w fixA fixB ⟨fixA_few, fixB_few, fixA_ok, fixB_ok⟩
  rw [ex_none fix_none] at c1
  have c2 := at_w fixA fixA ⟨fixA_few, fixA_few, fixA_ok, fixA_ok⟩
  rw [at_self] at c2
  have c3 := exact_w fixA fixB ⟨fixA_few, fixB_few, fixA_ok, fixB_ok⟩
  rw [decide_eq_true (exact_none fix_none)] at c3
  have c4 := exact_w fixA fixA ⟨fixA_few, fixA_few, fixA_ok, fixA_ok⟩
  rw [decide_eq_true (exact_none (self_none fixA))] at c4
  have c5 := Made_w fixB 8 fixB_few
  rw [fix_8] at c5
  have c6 := Made_w fixA 0 fixA_few
  have c7 := Made_w fixA 21 fixA_few
  rw [fix_21] at c7
  have hM := fix_0
  generalize madeF fixA (ofF fixA) 0 = M at c6 hM
  have e1 : decide ((M.length : Int) = 129) = true := by rw [hM]; rfl
  repeat' (first | refine rnC ?_ | refine rnSB ?_ | refine rnG ?_ | refine rnU ?_ | ((fail_if_success (refine rnKn ?_)); refine rnP ?_ ?_ <;> (intro hq; try (have hq' := hq; simp only [hqs] at hq'))) | refine rkC ?_ | refine rkSB ?_ | refine rkF ?_ | refine rkU ?_ | ((fail_if_success (refine rkKn ?_)); refine rkP ?_ ?_ <;> (intro hq; try (have hq' := hq; simp only [hqs] at hq'))) | refine stp ?_ | refine ifT ?_ | refine ifF ?_ | (refine ifQ ?_ ?_ <;> (try (intro hn))) | (refine ifB ?_ ?_ <;> (intro hq; try (have hq' := hq; simp only [hqs] at hq'))))
  exact rt1 rfl rfl finS_p rfl
end Go.Proofs.YtclcfjejpogdlaaGreat.Clk
namespace Go.Proofs.YtclcfjejpogdlaaGreat.Wi
open Go Go.RowKit Go.Aw Go.Aw.Sha Go.Aw.Cart Go.Aw.Tree Go.Proofs.YtclcfjejpogdlaaGreat.Ca Go.Proofs.YtclcfjejpogdlaaGreat.Rg Go.Proofs.YtclcfjejpogdlaaGreat.Sh 
set_option linter.unusedVariables false
set_option linter.unusedSimpArgs false
set_option maxRecDepth 8000
set_option maxHeartbeats 4000000
attribute [local irreducible] sum
theorem lvTo_range (p : Nat → Bool) : ∀ k, lvTo p k = ((List.range k).filter p).map fun i : Nat => (i : Int)
  | 0 => rfl
  | k + 1 => by
    rw [lvTo, lvTo_range p k, List.range_succ, List.filter_append, List.map_append]
    cases h : p k with
    | true => simp [h]
    | false => simp [h]
theorem stores_none {l m : List Kd} (part : Int) (hn : ∀ p, p < 21 → Clash.clashB (txsF l part) (txsF m part) (ofF (txsF l part)) (ofF (txsF m part)) p = false) : Clash.leavesL (Clash.walkF (ofF (txsF l part)) (ofF (txsF m part))).1 = unlF l m part := by
  rw [Clash.walk_leaves]
  unfold Clash.comeList unlF
  rw [lvTo_range]
  congr 1
  refine List.filter_congr fun i hi => ?_
  rw [Clash.un_of_text hn (List.mem_range.1 hi)]
  by_cases q : (txsF l part).getD i default = (txsF m part).getD i default
  · rw [decide_eq_true q, decide_eq_false (fun k => k q)]; rfl
  · rw [decide_eq_false q, decide_eq_true q]; rfl
open M1
theorem clashStores_w (l m : List Kd) (ex ey : Bool) (part : Int) (hl : l.length ≤ 9223372036854775807) (hm : m.length ≤ 9223372036854775807) (kl : ∀ k ∈ l, KdI k) (km : ∀ k ∈ m, KdI k) : PCall Tryz.prog 3 [.p (.sl 10 (l.map kR) ex), .p (.sl 10 (m.map kR) ey), .p (.i part)] (.p (.b true)) := by
  refine pcall_of Tryz.func3 rfl (fun w0 F S0 M0 => ?_)
  have a0 := Go.Proofs.YtclcfjejpogdlaaGreat.Clk.alive_w
  haveI i0 : PC Tryz.prog 16 [] True (.p (.b true)) := ⟨fun _ => a0⟩
  have c0 := pgreat_w l ex hl
  have c1 := pgreat_w m ey hm
  cases hg : greatL l with
  | true =>
    rw [hg] at c0
    haveI : PC Tryz.prog 15 [.p (.sl 10 (l.map kR) ex)] True (.p (.b true)) := ⟨fun _ => c0⟩
    as_aux_lemma =>
      repeat' (first | refine rnC ?_ | refine rnSB ?_ | refine rnG ?_ | refine rnU ?_ | ((fail_if_success (refine rnKn ?_)); refine rnP ?_ ?_ <;> (intro hq; try (have hq' := hq; simp only [hqs] at hq'))) | refine rkC ?_ | refine rkSB ?_ | refine rkF ?_ | refine rkU ?_ | ((fail_if_success (refine rkKn ?_)); refine rkP ?_ ?_ <;> (intro hq; try (have hq' := hq; simp only [hqs] at hq'))) | refine stp ?_ | refine aws_draws [] mixed (by kernel_rfl) ?_ | refine ifT ?_ | refine ifF ?_ | (refine ifQ ?_ ?_ <;> (try (intro hn))) | (refine ifB ?_ ?_ <;> (intro hq; try (have hq' := hq; simp only [hqs] at hq'))))
      exact rt1 rfl rfl finS_p rfl
  | false =>
  rw [hg] at c0
  haveI i1 : PC Tryz.prog 15 [.p (.sl 10 (l.map kR) ex)] True (.p (.b false)) := ⟨fun _ => c0⟩
  cases hk : greatL m with
  | true =>
    rw [hk] at c1
    haveI : PC Tryz.prog 15 [.p (.sl 10 (m.map kR) ey)] True (.p (.b true)) := ⟨fun _ => c1⟩
    as_aux_lemma =>
      repeat' (first | refine rnC ?_ | refine rnSB ?_ | refine rnG ?_ | refine rnU ?_ | ((fail_if_success (refine rnKn ?_)); refine rnP ?_ ?_ <;> (intro hq; try (have hq' := hq; simp only [hqs] at hq'))) | refine rkC ?_ | refine rkSB ?_ | refine rkF ?_ | refine rkU ?_ | ((fail_if_success (refine rkKn ?_)); refine rkP ?_ ?_ <;> (intro hq; try (have hq' := hq; simp only [hqs] at hq'))) | refine stp ?_ | refine aws_draws [] mixed (by kernel_rfl) ?_ | refine ifT ?_ | refine ifF ?_ | (refine ifQ ?_ ?_ <;> (try (intro hn))) | (refine ifB ?_ ?_ <;> (intro hq; try (have hq' := hq; simp only [hqs] at hq'))))
      exact rt1 rfl rfl finS_p rfl
  | false =>
  rw [hk] at c1
  haveI i2 : PC Tryz.prog 15 [.p (.sl 10 (m.map kR) ey)] True (.p (.b false)) := ⟨fun _ => c1⟩
  have ha := lin_of hg kl hl
  have hb := lin_of hk km hm
  have hfl := txs_few ha part
  have hfm := txs_few hb part
  have hol := txs_okT ha part
  have hom := txs_okT hb part
  have x1 := Go.Proofs.YtclcfjejpogdlaaGreat.Cl.extract_w (txsF l part) (txsF m part) ⟨hfl, hfm, hol, hom⟩
  have t1 := texts_w l ex part ha
  have t2 := texts_w m ey part hb
  have t3 := treePart_w l ex part ha
  have t4 := treePart_w m ey part hb
  have u1 := unlike_w l m ex ey part ha hb
  have ul := unl_len l m part
  obtain ⟨b1, b2⟩ := Go.Proofs.YtclcfjejpogdlaaGreat.Cl.exF_ok hol hom
  obtain ⟨n1, n2⟩ := Go.Proofs.YtclcfjejpogdlaaGreat.Cl.exF_len hfl hfm
  have hs := Go.Proofs.YtclcfjejpogdlaaGreat.Cl.ex_says (txsF l part) (txsF m part)
  have hd := Go.Proofs.YtclcfjejpogdlaaGreat.Cl.diff_w (ofF (txsF l part)) (ofF (txsF m part)) ⟨ofF_672 _, ofF_672 _⟩
  have hN := stores_none (l := l) (m := m) part
  have lT := ofF_672 (txsF l part)
  have hX16 := txsF_len l part
  have hY16 := txsF_len m part
  have lU := ofF_672 (txsF m part)
  generalize Clash.clashB (txsF l part) (txsF m part) (ofF (txsF l part)) (ofF (txsF m part)) = CB at hs hN
  generalize Go.Proofs.YtclcfjejpogdlaaGreat.Cl.exF (txsF l part) (txsF m part) = x at *
  generalize Clash.walkF (ofF (txsF l part)) (ofF (txsF m part)) = Wk at hd hN
  generalize txsF l part = X at *
  generalize txsF m part = Y at *
  generalize ofF X = T at *
  generalize ofF Y = U at *
  obtain ⟨p, q, is⟩ := x
  obtain ⟨wl, wn, wr⟩ := Wk
  simp only at b1 b2 n1 n2 hs hd hN
  haveI j1 : PC Tryz.prog 17 [.p (.sl 10 (l.map kR) ex), .p (.i part)] True (.a (X.map fun b => .p (.sl 1 (b.map bR) false))) := ⟨fun _ => t1⟩
  haveI j2 : PC Tryz.prog 17 [.p (.sl 10 (m.map kR) ey), .p (.i part)] True (.a (Y.map fun b => .p (.sl 1 (b.map bR) false))) := ⟨fun _ => t2⟩
  haveI j3 : PC Tryz.prog 18 [.a (X.map fun b => .p (.sl 1 (b.map bR) false)), .a (Y.map fun b => .p (.sl 1 (b.map bR) false))] True (.tup [.one (.p (.sl 1 (p.map bR) false)), .one (.p (.sl 1 (q.map bR) false)), .one (.p (.b is))]) := ⟨fun _ => x1⟩
  clear t1 t2 x1 c0 c1 a0
  rcases hs with ⟨h1, _, hn⟩ | ⟨h1, h2, h3⟩
  · subst h1
    rw [hN hn] at hd
    haveI j4 : PC Tryz.prog 21 [.p (.sl 10 (l.map kR) ex), .p (.i part)] True (Tr.tv T) := ⟨fun _ => t3⟩
    haveI j5 : PC Tryz.prog 21 [.p (.sl 10 (m.map kR) ey), .p (.i part)] True (Tr.tv U) := ⟨fun _ => t4⟩
    generalize unlF l m part = D at *
    haveI j6 : PC Tryz.prog 22 [.p (.sl 10 (l.map kR) ex), .p (.sl 10 (m.map kR) ey), .p (.i part)] True (.p (.sl 1 (D.map fun n => [PVal.i n]) false)) := ⟨fun _ => u1⟩
    haveI j7 : PC Tryz.prog 20 [Tr.tv T, Tr.tv U] True (.tup [.one (.p (.sl 1 (D.map fun n => [PVal.i n]) false)), .one (.p (.i wn))]) := ⟨fun _ => hd⟩
    have d0 : decide ((D.length : Int) ≠ (D.length : Int)) = false := decide_eq_false fun h => h rfl
    clear t3 t4 u1 hd hn hN ha hb kl km hfl hfm hol hom
    repeat' (first | refine rnC ?_ | refine rnSB ?_ | refine rnG ?_ | refine rnU ?_ | ((fail_if_success (refine rnKn ?_)); refine rnP ?_ ?_ <;> (intro hq; try (have hq' := hq; simp only [hqs] at hq'))) | refine rkC ?_ | refine rkSB ?_ | refine rkF ?_ | refine rkU ?_ | ((fail_if_success (refine rkKn ?_)); refine rkP ?_ ?_ <;> (intro hq; try (have hq' := hq; simp only [hqs] at hq'))) | refine stp ?_ | refine aws_draws [] mixed (by kernel_rfl) ?_ | refine ifT ?_ | refine ifF ?_ | (refine ifQ ?_ ?_ <;> (try (intro hn))) | (refine ifB ?_ ?_ <;> (intro hq; try (have hq' := hq; simp only [hqs] at hq'))))
    refine aws_loopS [6, 15, 73, 74, 75, 76, 77, 78, 79, 80, 81, 82, 83, 84, 85, 86, 87] [] (fun (i : Nat) => [(15, .p (.i i))]) (fun _ => []) (fun i => i ≤ D.length) (fun i => D.length - i) 0 (Nat.zero_le _) (by exact knA) (by exact knA) ?_
    intro i β γ hi
    by_cases hil : i < D.length
    · have d1 : decide ((i : Int) < (D.length : Int)) = true := decide_eq_true (by omega)
      have d2 : decide (D.getD (i : Int).toNat default ≠ D.getD (i : Int).toNat default) = false := decide_eq_false fun h => h rfl
      as_aux_lemma =>
        repeat' (first | refine rnC ?_ | refine rnSB ?_ | refine rnG ?_ | refine rnU ?_ | ((fail_if_success (refine rnKn ?_)); refine rnP ?_ ?_ <;> (intro hq; try (have hq' := hq; simp only [hqs] at hq'))) | refine rkC ?_ | refine rkSB ?_ | refine rkF ?_ | refine rkU ?_ | ((fail_if_success (refine rkKn ?_)); refine rkP ?_ ?_ <;> (intro hq; try (have hq' := hq; simp only [hqs] at hq'))) | refine stp ?_ | refine aws_draws [] mixed (by kernel_rfl) ?_ | refine ifT ?_ | refine ifF ?_ | (refine ifQ ?_ ?_ <;> (try (intro hn))) | (refine ifB ?_ ?_ <;> (intro hq; try (have hq' := hq; simp only [hqs] at hq'))))
        exact ⟨i + 1, _, by omega, by omega, .refl, by exact frA⟩
    · have d1 : decide ((i : Int) < (D.length : Int)) = false := decide_eq_false (by omega)
      as_aux_lemma =>
        repeat' (first | refine rnC ?_ | refine rnSB ?_ | refine rnG ?_ | refine rnU ?_ | ((fail_if_success (refine rnKn ?_)); refine rnP ?_ ?_ <;> (intro hq; try (have hq' := hq; simp only [hqs] at hq'))) | refine rkC ?_ | refine rkSB ?_ | refine rkF ?_ | refine rkU ?_ | ((fail_if_success (refine rkKn ?_)); refine rkP ?_ ?_ <;> (intro hq; try (have hq' := hq; simp only [hqs] at hq'))) | refine stp ?_ | refine aws_draws [] mixed (by kernel_rfl) ?_ | refine ifT ?_ | refine ifF ?_ | (refine ifQ ?_ ?_ <;> (try (intro hn))) | (refine ifB ?_ ?_ <;> (intro hq; try (have hq' := hq; simp only [hqs] at hq'))))
        exact rt1 rfl rfl finS_p rfl
  · subst h1
    have e1 : (!decide (p = q)) = true := by rw [decide_eq_false h2]; rfl
    have e2 : decide (sum p = sum q) = true := decide_eq_true h3
    have l1 := sumLen p
    have l2 := sumLen q
    haveI s1 : PC Tryz.prog 19 [.p (.sl 1 [[PVal.sl 1 (p.map bR) false]] true)] True (.a ((sum p).map bc)) := ⟨fun _ => sum1_c p false true (by omega)⟩
    haveI s2 : PC Tryz.prog 19 [.p (.sl 1 [[PVal.sl 1 (q.map bR) false]] true)] True (.a ((sum q).map bc)) := ⟨fun _ => sum1_c q false true (by omega)⟩
    clear t3 t4 u1 hd hN ha hb kl km hfl hfm hol hom
    as_aux_lemma =>
      repeat' (first | refine rnC ?_ | refine rnSB ?_ | refine rnG ?_ | refine rnU ?_ | ((fail_if_success (refine rnKn ?_)); refine rnP ?_ ?_ <;> (intro hq; try (have hq' := hq; simp only [hqs] at hq'))) | refine rkC ?_ | refine rkSB ?_ | refine rkF ?_ | refine rkU ?_ | ((fail_if_success (refine rkKn ?_)); refine rkP ?_ ?_ <;> (intro hq; try (have hq' := hq; simp only [hqs] at hq'))) | refine stp ?_ | refine aws_draws [] mixed (by kernel_rfl) ?_ | refine ifT ?_ | refine ifF ?_ | (refine ifQ ?_ ?_ <;> (try (intro hn))) | (refine ifB ?_ ?_ <;> (intro hq; try (have hq' := hq; simp only [hqs] at hq'))))
      exact rt1 rfl rfl finS_p (rb e2.symm)
theorem clashStores_a (a b : List Kd) (p : Int) (h : a.length ≤ maxLen ∧ ∀ k ∈ a, KdI k) (k : b.length ≤ maxLen ∧ ∀ k ∈ b, KdI k) : PCall Tryz.prog 3 [argAV false [.sl 10 (a.map fun k => kR k) false], argAV false [.sl 10 (b.map fun k => kR k) false], argAV false [.k .i64 p]] (.p (.b true)) := clashStores_w a b false false p h.1 k.1 h.2 k.2
end Go.Proofs.YtclcfjejpogdlaaGreat.Wi
namespace Go.Proofs.YtclcfjejpogdlaaGreat.Ca
open Go Go.RowKit Go.Aw Go.Aw.Cart
set_option linter.unusedVariables false
set_option linter.unusedSimpArgs false
theorem i64_of {n : Int} (h : IntKind.i64.min ≤ n ∧ n ≤ IntKind.i64.max) : -9223372036854775808 ≤ n ∧ n ≤ 9223372036854775807 := by
  simp only [IntKind.min, IntKind.max, IntKind.signed, IntKind.bits] at h
  simp at h; omega
theorem u64_of {n : Int} (h : IntKind.u64.min ≤ n ∧ n ≤ IntKind.u64.max) : 0 ≤ n ∧ n < 18446744073709551616 := by
  simp only [IntKind.min, IntKind.max, IntKind.signed, IntKind.bits] at h
  simp at h; omega
theorem rd_int : Reads Tryz.prog 3 Int (fun n => [PVal.k .i64 n]) (fun n => -9223372036854775808 ≤ n ∧ n ≤ 9223372036854775807) := (reads_int inferInstance).imp' id (fun _ _ => rfl) (fun _ h => i64_of h)
theorem rd_u64 : Reads Tryz.prog 93 Int (fun n => [PVal.k .u64 n]) (fun n => 0 ≤ n ∧ n < 18446744073709551616) := (reads_int inferInstance).imp' id (fun _ _ => rfl) (fun _ h => u64_of h)
def vRow (v : List Int) : List PVal := v.map fun n => PVal.k .u64 n
theorem rd_vec : Reads Tryz.prog 143 (List Int) vRow (fun v => v.length = 8 ∧ ∀ n ∈ v, 0 ≤ n ∧ n < 18446744073709551616) :=
  (reads_array (inferInstance : TI Tryz.prog 143 _ _ _) (inferInstance : TI Tryz.prog 93 _ _ _) rfl rd_u64).imp' id (fun l h => by
    clear h
    unfold vRow
    show List.map _ l = _
    induction l with
    | nil => rfl
    | cons b l ih => simp [ih]) (fun l h => h)
/-- an entry that Go can hold -/
def EB (e : Ent) : Prop := (-9223372036854775808 ≤ e.1 ∧ e.1 ≤ 9223372036854775807) ∧ (-9223372036854775808 ≤ e.2.1 ∧ e.2.1 ≤ 9223372036854775807) ∧ (0 ≤ e.2.2.1 ∧ e.2.2.1 < 18446744073709551616) ∧ (-9223372036854775808 ≤ e.2.2.2 ∧ e.2.2.2 ≤ 9223372036854775807)
theorem rd_ent : Reads Tryz.prog 289 Ent (fun e => eR e) EB :=
  (reads_struct (inferInstance : TI Tryz.prog 289 _ _ _)
    (readsFs_cons (inferInstance : TI Tryz.prog 3 _ _ _) rd_int (readsFs_cons (inferInstance : TI Tryz.prog 3 _ _ _) rd_int (readsFs_cons (inferInstance : TI Tryz.prog 93 _ _ _) rd_u64 (readsFs_cons (inferInstance : TI Tryz.prog 3 _ _ _) rd_int (readsFs_nil rfl)))))).imp
    (fun x => (x.1, x.2.1, x.2.2.1, x.2.2.2.1)) (fun x => rfl) (fun x h => ⟨h.1, h.2.1, h.2.2.1, h.2.2.2.1⟩)
theorem rd_ents : Reads Tryz.prog 144 (List Ent) (fun l => [.sl 4 (l.map fun e => eR e) false]) (fun l => l.length ≤ maxLen ∧ ∀ e ∈ l, EB e) :=
  reads_slice inferInstance inferInstance (by decide) rd_ent
/-- a cart that Go can hold -/
structure CIn (x : Crt) : Prop where
  v8 : x.1.length = 8
  vb : ∀ n ∈ x.1, 0 ≤ n ∧ n < 18446744073709551616
  len : x.2.length ≤ maxLen
  eb : ∀ e ∈ x.2, EB e
def cRow (x : Crt) : List PVal := vRow x.1 ++ [.sl 4 (x.2.map fun e => eR e) false]
theorem rd_cart : Reads Tryz.prog 146 Crt cRow CIn :=
  (reads_struct (inferInstance : TI Tryz.prog 146 _ _ _)
    (readsFs_cons (inferInstance : TI Tryz.prog 143 _ _ _) rd_vec (readsFs_cons (inferInstance : TI Tryz.prog 144 _ _ _) rd_ents (readsFs_nil rfl)))).imp
    (fun x => (x.1, x.2.1)) (fun x => by simp [cRow]) (fun x h => ⟨h.1.1, h.1.2, h.2.1.1, h.2.1.2⟩)
theorem CIn.qb {x : Crt} (h : CIn x) : ∀ e ∈ x.2, QB e := fun e he => (h.eb e he).2.2.2
end Go.Proofs.YtclcfjejpogdlaaGreat.Ca
