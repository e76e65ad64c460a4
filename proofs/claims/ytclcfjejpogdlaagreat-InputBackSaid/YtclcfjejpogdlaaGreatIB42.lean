/- inputs written; inputs read -/
import Derived.Test.YtclcfjejpogdlaaGreatIB41
import Derived.Test.YtclcfjejpogdlaaGreatIB38
namespace Go.Proofs.YtclcfjejpogdlaaGreat.Wi
open Go Go.RowKit Go.Aw Go.Aw.Cart Go.Aw.Tree Go.Proofs.YtclcfjejpogdlaaGreat.Ca Go.Proofs.YtclcfjejpogdlaaGreat.Rg
set_option linter.unusedVariables false
set_option linter.unusedSimpArgs false
set_option maxRecDepth 8000
set_option maxHeartbeats 4000000
namespace I4
theorem lopC {C : Ctx} {o : Oper} {σ : St} {e : Eff} {ro : Nat → Bool} (h : LOp C o σ e ro := by
    first | (apply lop_cv_sb; (focus rfl); (focus exact inferInstance); (focus exact inferInstance); (focus exact inferInstance); (focus rfl); (focus assumption); (focus first | (simp only [maxLen, List.length_append, List.length_cons, List.length_nil, List.length_take, List.length_drop, List.length_map]; omega) | omega); (focus rfl)) | (apply lop_cv_bs; (focus rfl); (focus exact inferInstance); (focus exact inferInstance); (focus exact inferInstance); (focus rfl); (focus rfl)) | exact I3.lopC | fail) : LOp C o σ e ro := h
section steps
variable {C : Ctx} {ops : Array Oper} {o : Oper} {rest : List Oper} {K : St → Prop} {σ : St} {e : Eff} {ro : Nat → Bool} {W : List (Nat × Nat)} {i : Nat}
theorem rnC {d : Nat} (hk : RunN C ops rest K (e.app (some d) σ)) (hg : Guard ops σ o true := by first | exact gd_n rfl rfl | exact gd_t rfl rfl rfl rfl | exact gd_t rfl rfl rfl (by assumption)) (hd : o.dst = some d := by rfl) (h : LOp C o σ e ro := by exact lopC) : RunN C ops (o :: rest) K σ := rn_any hg hd h hk
theorem rkC {d : Nat} (hk : RunK C ops W (i + 1) rest K (e.app (some d) σ)) (hg : Guard ops σ o true := by first | exact gd_n rfl rfl | exact gd_t rfl rfl rfl rfl | exact gd_t rfl rfl rfl (by assumption)) (hd' : o.dst = some d := by rfl) (hd : dOk C o.dst = true := by rfl) (h : LOp C o σ e ro := by exact lopC)
    (hro : ∀ x, ro x = true → okObj ops W i x = true := by first | exact fun _ => ro_none | exact ro_one rfl | exact ro_k1 rfl | exact ro_one (by kernel_rfl) | exact ro_k1 (by kernel_rfl) | exact ro_kIn (by decide)) (hob : ∀ p ∈ e.obj, (i, p.1) ∈ W := by first | exact ob_none | exact ob_one (by decide) | decide) : RunK C ops W i (o :: rest) K σ := rk_wr hg hd' hd h hro hob hk
end steps
end I4
open I4
theorem iwrite_g (x : Inp) (M : List AC) [pM : PureL M] (mB : List Nat) (hM : M.length = 40) (kx : okB x.key) (kl : x.key.length ≤ 100) (hdr : x.draw < 18446744073709551616) (ho : okI x = true) (cR : PCall Tryz.prog 53 [.a (iC x M)] (.p (.b true)))
    (cW : x.kind = 5 → PCall Tryz.prog 26 [.a M] (.tup [.one (.p (.sl 1 (mB.map bR) false)), .one (.p (.i 0))])) (lW : x.kind = 5 → mB.length ≤ 900000) :
    PCall Tryz.prog 50 [.a (iC x M)] (.tup [.one (.p (.sl 1 ((numI x.kind ++ (if x.kind = 1 then numI x.id ++ (textB x.key ++ opB x.op) else if x.kind = 2 then numI x.id ++ textB x.key else if x.kind = 4 then numB x.draw else if x.kind = 5 then textB mB else [])).map bR) false)), .one (.p (.i 0))]) := by
  refine pcall_of Tryz.func50 rfl (fun w0 F S0 M0 => ?_)
  obtain ⟨k1, k8⟩ := kind_in ho
  have kl6 : x.key.length ≤ 1000000 := by omega
  unfold okI at ho
  haveI i0 : PC Tryz.prog 53 [.a (iC x M)] True (.p (.b true)) := ⟨fun _ => cR⟩
  have d0 : (!true) = false := rfl
  have n1 := numI_len x.kind
  have n2 := numI_len x.id
  have n3 := textB_le x.key
  have n4 := opB_le x.op
  have n5 := numB_le x.draw
  have n6 := textB_le mB
  have g1 : (([] : List Nat) ++ numI x.kind).length ≤ 9 := by rw [List.length_append]; simpa using n1
  have kk : 0 ≤ x.kind ∧ x.kind < 18446744073709551616 := by omega
  clear cR n1
  by_cases q1 : x.kind = 1
  · have d1 : decide (x.kind = 1) = true := decide_eq_true q1
    rw [if_pos q1] at ho ⊢
    rw [Bool.and_eq_true] at ho
    obtain ⟨⟨a1, a2⟩, -, -⟩ := cli_in ho.1
    have ki : 0 ≤ x.id ∧ x.id < 18446744073709551616 := by omega
    have hm := ho.2
    have g2 : (([] : List Nat) ++ numI x.kind ++ numI x.id).length ≤ 18 := by rw [List.length_append]; omega
    have g3 : (([] : List Nat) ++ numI x.kind ++ numI x.id ++ textB x.key).length ≤ 200 := by rw [List.length_append]; omega
    have g4 : (([] : List Nat) ++ numI x.kind ++ numI x.id ++ textB x.key ++ opB x.op).length ≤ 300 := by rw [List.length_append]; omega
    rw [show numI x.kind ++ (numI x.id ++ (textB x.key ++ opB x.op)) = (([] : List Nat) ++ numI x.kind ++ numI x.id ++ textB x.key ++ opB x.op) by simp only [List.append_assoc, List.nil_append]]
    haveI jP : ∀ c g n : Nat, OC Tryz.prog 133 [.o (.ptr c g 0), opV x.op] [(c, (n, some (.abs (wrA (([] : List Nat) ++ numI x.kind ++ numI x.id ++ textB x.key)))))] [] (n = g + 1) (.tup []) [(c, (n, some (.abs (wrA (([] : List Nat) ++ numI x.kind ++ numI x.id ++ textB x.key ++ opB x.op)))))] := fun c g n => ⟨fun h => by obtain rfl := h; exact (eput_o g _ x.op hm (by omega)).one c⟩
    clear ho hm cW lW
    repeat' (first | refine rnC ?_ | refine rnSI ?_ | refine rnG ?_ | refine rnU ?_ | refine rkC ?_ | refine rkSI ?_ | refine rkF ?_ | refine rkU ?_ | refine stp ?_ | refine ifT ?_ | refine ifF ?_ | fail)
    refine rn_says (says_wr (p := 11) rfl) rfl ?_
    as_aux_lemma =>
      repeat' (first | refine rnC ?_ | refine rnSI ?_ | refine rnG ?_ | refine rnU ?_ | refine rkC ?_ | refine rkSI ?_ | refine rkF ?_ | refine rkU ?_ | refine stp ?_ | refine ifT ?_ | refine ifF ?_ | fail)
      exact rt2 rfl rfl finS_p rfl finS_p rfl
  have d1 : decide (x.kind = 1) = false := decide_eq_false q1
  rw [if_neg q1] at ho ⊢
  by_cases q2 : x.kind = 2
  · have d2 : decide (x.kind = 2) = true := decide_eq_true q2
    rw [if_pos q2] at ho ⊢
    obtain ⟨⟨a1, a2⟩, -, -⟩ := cli_in ho
    have ki : 0 ≤ x.id ∧ x.id < 18446744073709551616 := by omega
    have g2 : (([] : List Nat) ++ numI x.kind ++ numI x.id).length ≤ 18 := by rw [List.length_append]; omega
    have g3 : (([] : List Nat) ++ numI x.kind ++ numI x.id ++ textB x.key).length ≤ 200 := by rw [List.length_append]; omega
    rw [show numI x.kind ++ (numI x.id ++ textB x.key) = (([] : List Nat) ++ numI x.kind ++ numI x.id ++ textB x.key) by simp only [List.append_assoc, List.nil_append]]
    clear ho cW lW
    repeat' (first | refine rnC ?_ | refine rnSI ?_ | refine rnG ?_ | refine rnU ?_ | refine rkC ?_ | refine rkSI ?_ | refine rkF ?_ | refine rkU ?_ | refine stp ?_ | refine ifT ?_ | refine ifF ?_ | fail)
    refine rn_says (says_wr (p := 11) rfl) rfl ?_
    as_aux_lemma =>
      repeat' (first | refine rnC ?_ | refine rnSI ?_ | refine rnG ?_ | refine rnU ?_ | refine rkC ?_ | refine rkSI ?_ | refine rkF ?_ | refine rkU ?_ | refine stp ?_ | refine ifT ?_ | refine ifF ?_ | fail)
      exact rt2 rfl rfl finS_p rfl finS_p rfl
  have d2 : decide (x.kind = 2) = false := decide_eq_false q2
  rw [if_neg q2] at ho ⊢
  by_cases q4 : x.kind = 4
  · have d4 : decide (x.kind = 4) = true := decide_eq_true q4
    rw [if_pos q4]
    have g2 : (([] : List Nat) ++ numI x.kind ++ numB x.draw).length ≤ 18 := by rw [List.length_append]; omega
    rw [show numI x.kind ++ numB x.draw = (([] : List Nat) ++ numI x.kind ++ numB x.draw) by simp only [List.nil_append]]
    clear ho cW lW
    repeat' (first | refine rnC ?_ | refine rnSI ?_ | refine rnG ?_ | refine rnU ?_ | refine rkC ?_ | refine rkSI ?_ | refine rkF ?_ | refine rkU ?_ | refine stp ?_ | refine ifT ?_ | refine ifF ?_ | fail)
    refine rn_says (says_wr (p := 11) rfl) rfl ?_
    as_aux_lemma =>
      repeat' (first | refine rnC ?_ | refine rnSI ?_ | refine rnG ?_ | refine rnU ?_ | refine rkC ?_ | refine rkSI ?_ | refine rkF ?_ | refine rkU ?_ | refine stp ?_ | refine ifT ?_ | refine ifF ?_ | fail)
      exact rt2 rfl rfl finS_p rfl finS_p rfl
  have d4 : decide (x.kind = 4) = false := decide_eq_false q4
  rw [if_neg q4]
  by_cases q5 : x.kind = 5
  · have d5 : decide (x.kind = 5) = true := decide_eq_true q5
    rw [if_pos q5]
    have l5 := lW q5
    have l6 : mB.length ≤ 1000000 := by omega
    haveI i1 : PC Tryz.prog 26 [.a M] True (.tup [.one (.p (.sl 1 (mB.map bR) false)), .one (.p (.i 0))]) := ⟨fun _ => cW q5⟩
    have g2 : (([] : List Nat) ++ numI x.kind ++ textB mB).length ≤ 1000000 := by rw [List.length_append]; omega
    rw [show numI x.kind ++ textB mB = (([] : List Nat) ++ numI x.kind ++ textB mB) by simp only [List.nil_append]]
    clear ho cW lW
    repeat' (first | refine rnC ?_ | refine rnSI ?_ | refine rnG ?_ | refine rnU ?_ | refine rkC ?_ | refine rkSI ?_ | refine rkF ?_ | refine rkU ?_ | refine stp ?_ | refine ifT ?_ | refine ifF ?_ | fail)
    refine rn_says (says_wr (p := 11) rfl) rfl ?_
    as_aux_lemma =>
      repeat' (first | refine rnC ?_ | refine rnSI ?_ | refine rnG ?_ | refine rnU ?_ | refine rkC ?_ | refine rkSI ?_ | refine rkF ?_ | refine rkU ?_ | refine stp ?_ | refine ifT ?_ | refine ifF ?_ | fail)
      exact rt2 rfl rfl finS_p rfl finS_p rfl
  have d5 : decide (x.kind = 5) = false := decide_eq_false q5
  rw [if_neg q5]
  rw [show numI x.kind ++ ([] : List Nat) = ([] : List Nat) ++ numI x.kind by simp only [List.nil_append, List.append_nil]]
  clear ho cW lW
  repeat' (first | refine rnC ?_ | refine rnSI ?_ | refine rnG ?_ | refine rnU ?_ | refine rkC ?_ | refine rkSI ?_ | refine rkF ?_ | refine rkU ?_ | refine stp ?_ | refine ifT ?_ | refine ifF ?_ | fail)
  refine rn_says (says_wr (p := 11) rfl) rfl ?_
  as_aux_lemma =>
    repeat' (first | refine rnC ?_ | refine rnSI ?_ | refine rnG ?_ | refine rnU ?_ | refine rkC ?_ | refine rkSI ?_ | refine rkF ?_ | refine rkU ?_ | refine stp ?_ | refine ifT ?_ | refine ifF ?_ | fail)
    exact rt2 rfl rfl finS_p rfl finS_p rfl
theorem iwrite_ok (x : Inp) (h : IIn x) (hr : rightI x = true) : PCall Tryz.prog 50 [iV x] (.tup [.one (.p (.sl 1 ((inpB x).map bR) false)), .one (.p (.i 0))]) := by
  have ho := (own_of hr).1
  have h5 : x.kind = 5 → rightM x.msg = true := fun q => by
    have ho := ho
    unfold okI at ho
    rw [if_neg (by omega), if_neg (by omega), if_pos q] at ho
    exact ho
  have cR := iright_w x h.msg h.key (by have := h.kl; omega)
  rw [hr] at cR
  exact iwrite_g x (mL x.msg) (msgB x.msg) (mL_len h.msg.d32) h.key h.kl h.draw ho cR (fun q => mwrite_ok x.msg h.msg (h5 q)) (fun q => msgB_few h.msg (h5 q) h.gr)
theorem iwrite_n (x : Inp) (M : List AC) [pM : PureL M] (hM : M.length = 40) (cR : PCall Tryz.prog 53 [.a (iC x M)] (.p (.b false))) : PCall Tryz.prog 50 [.a (iC x M)] (.tup [.one (.p (.sl 1 (([] : List Nat).map bR) false)), .one (.p (.i 3))]) := by
  refine pcall_of Tryz.func50 rfl (fun w0 F S0 M0 => ?_)
  haveI i0 : PC Tryz.prog 53 [.a (iC x M)] True (.p (.b false)) := ⟨fun _ => cR⟩
  have d0 : (!false) = true := rfl
  as_aux_lemma =>
    repeat' (first | refine rnC ?_ | refine rnSI ?_ | refine rnG ?_ | refine rnU ?_ | ((fail_if_success (refine rnKn ?_)); refine rnP ?_ ?_ <;> (intro hq; try (have hq' := hq; simp only [hqs] at hq'))) | refine rkC ?_ | refine rkSI ?_ | refine rkF ?_ | refine rkU ?_ | ((fail_if_success (refine rkKn ?_)); refine rkP ?_ ?_ <;> (intro hq; try (have hq' := hq; simp only [hqs] at hq'))) | refine stp ?_ | refine ifT ?_ | refine ifF ?_ | (refine ifQ ?_ ?_ <;> (try (intro hn))) | (refine ifB ?_ ?_ <;> (intro hq; try (have hq' := hq; simp only [hqs] at hq'))))
    exact rt2 rfl rfl (.one .nil) rfl finS_p rfl
theorem iwrite_no (x : Inp) (h : MIn x.msg) (kx : okB x.key) (kl : x.key.length ≤ 1000000) (hr : rightI x = false) : PCall Tryz.prog 50 [iV x] (.tup [.one (.p (.sl 1 (([] : List Nat).map bR) false)), .one (.p (.i 3))]) := by
  have cR := iright_w x h kx kl
  rw [hr] at cR
  exact iwrite_n x (mL x.msg) (mL_len h.d32) cR
end Go.Proofs.YtclcfjejpogdlaaGreat.Wi
namespace Go.Proofs.YtclcfjejpogdlaaGreat.Wi
open Go Go.RowKit Go.Aw Go.Aw.Cart Go.Aw.Tree Go.Proofs.YtclcfjejpogdlaaGreat.Ca Go.Proofs.YtclcfjejpogdlaaGreat.Rg
set_option linter.unusedVariables false
set_option linter.unusedSimpArgs false
set_option maxRecDepth 8000
set_option maxHeartbeats 4000000
theorem pe_m {p0 p1 p2 p3 p4 x y z x' y' z' : PVal} {d : List Nat} (h1 : PE x x') (h2 : PE y y') (h3 : PE z z') : All2 PE (p0 :: p1 :: p2 :: p3 :: p4 :: (d.map (fun n : Nat => PVal.k .u8 (n : Int)) ++ [x, y, z])) (p0 :: p1 :: p2 :: p3 :: p4 :: (d.map (fun n : Nat => PVal.k .u8 (n : Int)) ++ [x', y', z'])) := by
  refine .cons .refl (.cons .refl (.cons .refl (.cons .refl (.cons .refl ?_))))
  induction d with
  | nil => exact .cons h1 (.cons h2 (.cons h3 .nil))
  | cons a d ih => exact .cons .refl ih
/-- cells that hold a message -/
structure ME (M : List AC) (m : Msg) : Prop where
  pure : PureL M
  len : M.length = 40
  fin : ∀ (σ : St) (K : Nat → Bool), All2 (FinC σ K) M (mL m)
  ent : ∀ x : Inp, Ent1 (.a (iC x M)) (.a (iC x (mL m)))
theorem me_self {m : Msg} (h : m.dig.length = 32) : ME (mL m) m where
  pure := inferInstance
  len := mL_len h
  fin := fun _ _ => fin_mL m
  ent := fun x => by
    rw [mL_eq]
    show Ent1 (.a ((PVal.i x.kind :: .i x.id :: .v (.string (strOf x.key)) :: .i x.op.1 :: .i x.op.2.1 :: .i x.op.2.2 :: .k .u64 (x.draw : Int) :: mR m).map .p)) _
    exact Ent1.refl
abbrev zMR : List PVal := .i 0 :: .i 0 :: .i 0 :: .i 0 :: .i 0 :: (zeroD.map (fun n : Nat => PVal.k .u8 (n : Int)) ++ [.v (.slice none 0 0), .v (.slice none 0 0), .v (.slice none 0 0)])
theorem zMC_eq : zMC = zMR.map .p := by
  unfold zMC zMR
  simp only [List.map_cons, List.map_append, List.map_map, List.map_nil]
  rfl
theorem me_zero : ME zMC zeroM where
  pure := inferInstance
  len := zMC_len
  fin := fun _ _ => fin_zM
  ent := fun x => by
    rw [mL_eq, zMC_eq]
    show Ent1 (.a ((PVal.i x.kind :: .i x.id :: .v (.string (strOf x.key)) :: .i x.op.1 :: .i x.op.2.1 :: .i x.op.2.2 :: .k .u64 (x.draw : Int) :: zMR).map .p)) (.a ((PVal.i x.kind :: .i x.id :: .v (.string (strOf x.key)) :: .i x.op.1 :: .i x.op.2.1 :: .i x.op.2.2 :: .k .u64 (x.draw : Int) :: mR zeroM).map .p))
    exact Ent1.cells (.cons .refl (.cons .refl (.cons .refl (.cons .refl (.cons .refl (.cons .refl (.cons .refl (pe_m PE.nil PE.nil PE.nil))))))))
theorem readI_of {b : List Nat} {x : Inp} {q : RS} (h : inS (b, 0) = (x, q)) : readI b = if endS q ≠ 0 ∨ rightI x = false then (zeroI, 3) else (x, 0) := by
  unfold readI
  rw [h]
theorem nil_ok : okB ([] : List Nat) := fun c hc => by cases hc
open I4
attribute [local irreducible] smallS textS opS readM numS
theorem iread_w (b : List Nat) (hb : okB b) (hbl : b.length ≤ 1000000000) : PCall Tryz.prog 51 [.p (.sl 1 (b.map bR) false)] (.tup [.agg (iC (readI b).1 (mL (readI b).1.msg)), .one (.p (.i (readI b).2))]) := by
  refine pcall_of Tryz.func51 rfl (fun w0 F S0 M0 => ?_)
  have hz40 := zMC_len
  obtain ⟨r0, hr0⟩ : ∃ r0 : RS, r0 = (b, 0) := ⟨_, rfl⟩
  have o0 : rdOk r0 := by rw [hr0]; exact ⟨hb, hbl⟩
  obtain ⟨k, r1, h1⟩ := pr_ex (smallS 8 r0)
  have o1 : rdOk r1 := by have := (par_small 8).rd o0; rwa [h1] at this
  have hin : inS (b, 0) = bodyS k r1 := by
    rw [← hr0]
    simp only [inS, bindS, h1]
  haveI j0 : ∀ c m : Nat, OC Tryz.prog 96 [.p (.sl 1 (b.map bR) false)] [] [(c, m)] True (.o (.ptr c m 0)) [(c, (m + 1, some (rdM r0)))] := fun c m => ⟨fun _ => by rw [hr0]; exact (from_o b false hbl).fresh1 c m⟩
  haveI j1 : ∀ q g m : Nat, OC Tryz.prog 97 [.o (.ptr q g 0), .p (.i 8)] [(q, (m, some (rdM r0)))] [] (m = g + 1) (.p (.i k)) [(q, (m, some (rdM r1)))] := fun q g m => ⟨fun h => by obtain rfl := h; have := (small_o g r0 8 (by decide) o0.1 o0.2).one q; rwa [h1] at this⟩
  clear h1 o0 hr0
  repeat' (first | refine rnC ?_ | refine rnSI ?_ | refine rnG ?_ | refine rnU ?_ | refine rkC ?_ | refine rkSI ?_ | refine rkF ?_ | refine rkU ?_ | refine stpB ?_ | refine ifT ?_ | refine ifF ?_ | fail)
  refine aws_mid (fun x : Inp × List AC × RS => ME x.2.1 x.1.msg ∧ MIn x.1.msg ∧ okB x.1.key ∧ x.1.key.length ≤ 20 ∧ x.1.kind = k ∧ rdOk x.2.2 ∧ bodyS k r1 = if k = 1 then bindS opS (fun o => pureS { x.1 with op := o }) x.2.2 else (x.1, x.2.2)) (fun _ => [(4, .o (.ptr 9 0 0)), (5, .o (.ptr 5 0 0)), (2, .o (.ptr 2 0 0))]) (fun x => [(9, (1, some (rdM x.2.2))), (5, (1, some (.box 95 (iC x.1 x.2.1)))), (2, (1, some (.box 95 (.p (.i 0) :: .p (.i 0) :: .p (.v (.string ByteArray.empty)) :: .p (.i 0) :: .p (.i 0) :: .p (.i 0) :: .p (.k .u64 0) :: zMC))))]) ?_ ?_
  · clear hin
    by_cases q1 : k = 1 ∨ k = 2
    · obtain ⟨i, r2, h2⟩ := pr_ex (smallS 1099511627776 r1)
      have o2 : rdOk r2 := by have := (par_small 1099511627776).rd o1; rwa [h2] at this
      have tf := text_fit (most := 20) (by decide) r2 o2
      obtain ⟨s, r3, h3⟩ := pr_ex (textS 20 r2)
      have o3 : rdOk r3 := by have := (par_text 20).rd o2; rwa [h3] at this
      rw [h3] at tf
      dsimp only at tf
      obtain ⟨ks, ls⟩ := tf
      have eb : bodyS k r1 = if k = 1 then bindS opS (fun o => pureS ⟨k, i, s, o, 0, zeroM⟩) r3 else (⟨k, i, s, (0, 0, 0), 0, zeroM⟩, r3) := by
        unfold bodyS
        rcases q1 with q | q
        · rw [if_pos q, if_pos q]
          simp only [bindS, h2, h3]
        · rw [if_neg (by omega), if_pos q, if_neg (by omega)]
          simp only [bindS, h2, h3, pureS]
      haveI j2 : ∀ q g m : Nat, OC Tryz.prog 97 [.o (.ptr q g 0), .p (.i 1099511627776)] [(q, (m, some (rdM r1)))] [] (m = g + 1) (.p (.i i)) [(q, (m, some (rdM r2)))] := fun q g m => ⟨fun h => by obtain rfl := h; have := (small_o g r1 1099511627776 (by decide) o1.1 o1.2).one q; rwa [h2] at this⟩
      haveI j3 : ∀ q g m : Nat, OC Tryz.prog 134 [.o (.ptr q g 0), .p (.i 20)] [(q, (m, some (rdM r2)))] [] (m = g + 1) (.p (.sl 1 (s.map bR) false)) [(q, (m, some (rdM r3)))] := fun q g m => ⟨fun h => by obtain rfl := h; have := (rtext_o g r2 20 (by decide) o2).one q; rwa [h3] at this⟩
      have d1 : decide (k = 1) = true ∨ (decide (k = 1) = false ∧ decide (k = 2) = true) := by
        rcases q1 with q | q
        · exact .inl (decide_eq_true q)
        · exact .inr ⟨decide_eq_false (by omega), decide_eq_true q⟩
      clear h2 h3 o1 o2 q1
      have ls3 : s.length ≤ 1000000000 := by omega
      rcases d1 with d1 | ⟨d1, d2⟩
      all_goals
        repeat' (first | refine rnC ?_ | refine rnSI ?_ | refine rnG ?_ | refine rnU ?_ | ((fail_if_success (refine rnKn ?_)); refine rnP ?_ ?_ <;> (intro hq; try (have hq' := hq; simp only [hqs] at hq'))) | refine rkC ?_ | refine rkSI ?_ | refine rkF ?_ | refine rkU ?_ | ((fail_if_success (refine rkKn ?_)); refine rkP ?_ ?_ <;> (intro hq; try (have hq' := hq; simp only [hqs] at hq'))) | refine stp ?_ | refine ifT ?_ | refine ifF ?_ | (refine ifQ ?_ ?_ <;> (try (intro hn))) | (refine ifB ?_ ?_ <;> (intro hq; try (have hq' := hq; simp only [hqs] at hq'))))
        refine aws_draws [(1, 9), (3, 9), (6, 5), (8, 5)] mixed (by kernel_rfl) ?_
        repeat' (first | refine rk_nil ?_ | refine rkC ?_ | refine rkSI ?_ | refine rkF ?_ | refine rkU ?_ | ((fail_if_success (refine rkKn ?_)); refine rkP ?_ ?_ <;> (intro hq; try (have hq' := hq; simp only [hqs] at hq'))))
        as_aux_lemma =>
          repeat' (first | refine rnC ?_ | refine rnSI ?_ | refine rnG ?_ | refine rnU ?_ | ((fail_if_success (refine rnKn ?_)); refine rnP ?_ ?_ <;> (intro hq; try (have hq' := hq; simp only [hqs] at hq'))) | refine rkC ?_ | refine rkSI ?_ | refine rkF ?_ | refine rkU ?_ | ((fail_if_success (refine rkKn ?_)); refine rkP ?_ ?_ <;> (intro hq; try (have hq' := hq; simp only [hqs] at hq'))) | refine stp ?_ | refine ifT ?_ | refine ifF ?_ | (refine ifQ ?_ ?_ <;> (try (intro hn))) | (refine ifB ?_ ?_ <;> (intro hq; try (have hq' := hq; simp only [hqs] at hq'))))
          exact ⟨(⟨k, i, s, (0, 0, 0), 0, zeroM⟩, zMC, r3), ⟨me_zero, zeroM_in, ks, by dsimp only; omega, rfl, o3, eb⟩, by exact knA, by exact knA⟩
    have d1 : decide (k = 1) = false := decide_eq_false fun q => q1 (.inl q)
    have d2 : decide (k = 2) = false := decide_eq_false fun q => q1 (.inr q)
    by_cases q4 : k = 4
    · have d4 : decide (k = 4) = true := decide_eq_true q4
      obtain ⟨n, r2, h2⟩ := pr_ex (numS r1)
      have o2 : rdOk r2 := by have := par_num.rd o1; rwa [h2] at this
      have eb : bodyS k r1 = if k = 1 then bindS opS (fun o => pureS ⟨k, 0, [], o, n, zeroM⟩) r2 else (⟨k, 0, [], (0, 0, 0), n, zeroM⟩, r2) := by
        unfold bodyS
        rw [if_neg (by omega), if_neg (by omega), if_pos q4, if_neg (by omega)]
        simp only [bindS, h2, pureS]
      haveI j2 : ∀ q g m : Nat, OC Tryz.prog 135 [.o (.ptr q g 0)] [(q, (m, some (rdM r1)))] [] (m = g + 1) (.p (.k .u64 (n : Int))) [(q, (m, some (rdM r2)))] := fun q g m => ⟨fun h => by obtain rfl := h; have := (rnum_o g r1 o1.1 o1.2).one q; rwa [h2] at this⟩
      clear h2 o1
      as_aux_lemma =>
        repeat' (first | refine rnC ?_ | refine rnSI ?_ | refine rnG ?_ | refine rnU ?_ | ((fail_if_success (refine rnKn ?_)); refine rnP ?_ ?_ <;> (intro hq; try (have hq' := hq; simp only [hqs] at hq'))) | refine rkC ?_ | refine rkSI ?_ | refine rkF ?_ | refine rkU ?_ | ((fail_if_success (refine rkKn ?_)); refine rkP ?_ ?_ <;> (intro hq; try (have hq' := hq; simp only [hqs] at hq'))) | refine stp ?_ | refine ifT ?_ | refine ifF ?_ | (refine ifQ ?_ ?_ <;> (try (intro hn))) | (refine ifB ?_ ?_ <;> (intro hq; try (have hq' := hq; simp only [hqs] at hq'))))
        exact ⟨(⟨k, 0, [], (0, 0, 0), n, zeroM⟩, zMC, r2), ⟨me_zero, zeroM_in, nil_ok, Nat.zero_le _, rfl, o2, eb⟩, by exact knA, by exact knA⟩
    have d4 : decide (k = 4) = false := decide_eq_false q4
    by_cases q5 : k = 5
    · have d5 : decide (k = 5) = true := decide_eq_true q5
      have tf := text_fit (most := 16777216) (by decide) r1 o1
      obtain ⟨s, r2, h2⟩ := pr_ex (textS 16777216 r1)
      have o2 : rdOk r2 := by have := (par_text 16777216).rd o1; rwa [h2] at this
      rw [h2] at tf
      dsimp only at tf
      obtain ⟨ks, ls⟩ := tf
      have cM := mread_w s ks (by omega)
      have mi := readM_in ks (show s.length ≤ 1000000000 by omega)
      have o3 : rdOk (mustS (decide ((readM s).2 = 0)) r2) := (par_must _).rd o2
      have eb : bodyS k r1 = if k = 1 then bindS opS (fun o => pureS ⟨k, 0, [], o, 0, (readM s).1⟩) (mustS (decide ((readM s).2 = 0)) r2) else (⟨k, 0, [], (0, 0, 0), 0, (readM s).1⟩, mustS (decide ((readM s).2 = 0)) r2) := by
        unfold bodyS
        rw [if_neg (by omega), if_neg (by omega), if_neg q4, if_pos q5, if_neg (by omega)]
        simp only [bindS, h2, pureS, mustU]
      generalize (readM s).1 = m at *
      generalize (readM s).2 = e at *
      have hm40 := mL_len mi.d32
      have me := me_self mi.d32
      haveI j2 : ∀ q g m : Nat, OC Tryz.prog 134 [.o (.ptr q g 0), .p (.i 16777216)] [(q, (m, some (rdM r1)))] [] (m = g + 1) (.p (.sl 1 (s.map bR) false)) [(q, (m, some (rdM r2)))] := fun q g m => ⟨fun h => by obtain rfl := h; have := (rtext_o g r1 16777216 (by decide) o1).one q; rwa [h2] at this⟩
      haveI j3 : PC Tryz.prog 27 [.p (.sl 1 (s.map bR) false)] True (.tup [.agg (mL m), .one (.p (.i e))]) := ⟨fun _ => cM⟩
      clear h2 o1 cM
      revert me hm40
      generalize mL m = M at j3 ⊢
      intro hm40 me
      as_aux_lemma =>
        repeat' (first | refine rnC ?_ | refine rnSI ?_ | refine rnG ?_ | refine rnU ?_ | ((fail_if_success (refine rnKn ?_)); refine rnP ?_ ?_ <;> (intro hq; try (have hq' := hq; simp only [hqs] at hq'))) | refine rkC ?_ | refine rkSI ?_ | refine rkF ?_ | refine rkU ?_ | ((fail_if_success (refine rkKn ?_)); refine rkP ?_ ?_ <;> (intro hq; try (have hq' := hq; simp only [hqs] at hq'))) | refine stp ?_ | refine ifT ?_ | refine ifF ?_ | (refine ifQ ?_ ?_ <;> (try (intro hn))) | (refine ifB ?_ ?_ <;> (intro hq; try (have hq' := hq; simp only [hqs] at hq'))))
        exact ⟨(⟨k, 0, [], (0, 0, 0), 0, m⟩, M, _), ⟨me, mi, nil_ok, Nat.zero_le _, rfl, o3, eb⟩, by exact knA, by exact knA⟩
    have d5 : decide (k = 5) = false := decide_eq_false q5
    have eb : bodyS k r1 = if k = 1 then bindS opS (fun o => pureS ⟨k, 0, [], o, 0, zeroM⟩) r1 else (⟨k, 0, [], (0, 0, 0), 0, zeroM⟩, r1) := by
      unfold bodyS
      rw [if_neg (fun q => q1 (.inl q)), if_neg (fun q => q1 (.inr q)), if_neg q4, if_neg q5, if_neg (fun q => q1 (.inl q))]
      rfl
    as_aux_lemma =>
      repeat' (first | refine rnC ?_ | refine rnSI ?_ | refine rnG ?_ | refine rnU ?_ | ((fail_if_success (refine rnKn ?_)); refine rnP ?_ ?_ <;> (intro hq; try (have hq' := hq; simp only [hqs] at hq'))) | refine rkC ?_ | refine rkSI ?_ | refine rkF ?_ | refine rkU ?_ | ((fail_if_success (refine rkKn ?_)); refine rkP ?_ ?_ <;> (intro hq; try (have hq' := hq; simp only [hqs] at hq'))) | refine stp ?_ | refine ifT ?_ | refine ifF ?_ | (refine ifQ ?_ ?_ <;> (try (intro hn))) | (refine ifB ?_ ?_ <;> (intro hq; try (have hq' := hq; simp only [hqs] at hq'))))
      exact ⟨(⟨k, 0, [], (0, 0, 0), 0, zeroM⟩, zMC, r1), ⟨me_zero, zeroM_in, nil_ok, Nat.zero_le _, rfl, o1, eb⟩, by exact knA, by exact knA⟩
  rintro ⟨X, M, q⟩ ν ⟨me, mi, kx, kl, hk, oq, eb⟩
  dsimp only at me mi kx kl hk oq eb ⊢
  clear j0 j1 o1
  obtain ⟨pM, hM, hF, hE⟩ := me
  by_cases q1 : k = 1
  · rw [if_pos q1] at eb
    have d1 : decide (X.kind = 1) = true := decide_eq_true (hk.trans q1)
    obtain ⟨o, q2, h2⟩ := pr_ex (opS q)
    have hri : readI b = if endS q2 ≠ 0 ∨ rightI { X with op := o } = false then (zeroI, 3) else ({ X with op := o }, 0) := readI_of (by rw [hin, eb]; simp only [bindS, h2, pureS])
    rw [hri]
    have cR := (iright_w { X with op := o } mi kx (by dsimp only; omega)).ent (.cons (hE _) .nil)
    haveI j2 : ∀ p g m : Nat, OC Tryz.prog 137 [.o (.ptr p g 0)] [(p, (m, some (rdM q)))] [] (m = g + 1) (opV o) [(p, (m, some (rdM q2)))] := fun p g m => ⟨fun h => by obtain rfl := h; have := (etake_o g q oq).one p; rw [h2] at this; exact this⟩
    generalize rightI { X with op := o } = R at cR ⊢
    haveI j3 : PC Tryz.prog 53 [.a (.p (.i X.kind) :: .p (.i X.id) :: .p (.v (.string (strOf X.key))) :: .p (.i o.1) :: .p (.i o.2.1) :: .p (.i o.2.2) :: .p (.k .u64 (X.draw : Int)) :: M)] True (.p (.b R)) := ⟨fun _ => cR⟩
    clear cR hri h2 oq eb hin
    by_cases hz : endS q2 = 0
    · have d2 : decide (endS q2 ≠ 0) = false := decide_eq_false fun h => h hz
      cases R with
      | true =>
        have t0 : (!true) = false := rfl
        rw [if_neg (by intro h; rcases h with h | h; exact h hz; cases h)]
        as_aux_lemma =>
          repeat' (first | refine rnC ?_ | refine rnSI ?_ | refine rnG ?_ | refine rnU ?_ | ((fail_if_success (refine rnKn ?_)); refine rnP ?_ ?_ <;> (intro hq; try (have hq' := hq; simp only [hqs] at hq'))) | refine rkC ?_ | refine rkSI ?_ | refine rkF ?_ | refine rkU ?_ | ((fail_if_success (refine rkKn ?_)); refine rkP ?_ ?_ <;> (intro hq; try (have hq' := hq; simp only [hqs] at hq'))) | refine stp ?_ | refine ifT ?_ | refine ifF ?_ | (refine ifQ ?_ ?_ <;> (try (intro hn))) | (refine ifB ?_ ?_ <;> (intro hq; try (have hq' := hq; simp only [hqs] at hq'))))
          exact rc2 rfl rfl rfl rfl rfl (il47 hM) (finI (hF _ _)) rfl finS_p rfl
      | false =>
        have t0 : (!false) = true := rfl
        rw [if_pos (.inr rfl)]
        as_aux_lemma =>
          repeat' (first | refine rnC ?_ | refine rnSI ?_ | refine rnG ?_ | refine rnU ?_ | ((fail_if_success (refine rnKn ?_)); refine rnP ?_ ?_ <;> (intro hq; try (have hq' := hq; simp only [hqs] at hq'))) | refine rkC ?_ | refine rkSI ?_ | refine rkF ?_ | refine rkU ?_ | ((fail_if_success (refine rkKn ?_)); refine rkP ?_ ?_ <;> (intro hq; try (have hq' := hq; simp only [hqs] at hq'))) | refine stp ?_ | refine ifT ?_ | refine ifF ?_ | (refine ifQ ?_ ?_ <;> (try (intro hn))) | (refine ifB ?_ ?_ <;> (intro hq; try (have hq' := hq; simp only [hqs] at hq'))))
          exact rc2 rfl rfl rfl rfl rfl (il47 hz40) (finI fin_zM) rfl finS_p rfl
    · have d2 : decide (endS q2 ≠ 0) = true := decide_eq_true hz
      rw [if_pos (.inl hz)]
      as_aux_lemma =>
        repeat' (first | refine rnC ?_ | refine rnSI ?_ | refine rnG ?_ | refine rnU ?_ | ((fail_if_success (refine rnKn ?_)); refine rnP ?_ ?_ <;> (intro hq; try (have hq' := hq; simp only [hqs] at hq'))) | refine rkC ?_ | refine rkSI ?_ | refine rkF ?_ | refine rkU ?_ | ((fail_if_success (refine rkKn ?_)); refine rkP ?_ ?_ <;> (intro hq; try (have hq' := hq; simp only [hqs] at hq'))) | refine stp ?_ | refine ifT ?_ | refine ifF ?_ | (refine ifQ ?_ ?_ <;> (try (intro hn))) | (refine ifB ?_ ?_ <;> (intro hq; try (have hq' := hq; simp only [hqs] at hq'))))
        exact rc2 rfl rfl rfl rfl rfl (il47 hz40) (finI fin_zM) rfl finS_p rfl
  · rw [if_neg q1] at eb
    have d1 : decide (X.kind = 1) = false := decide_eq_false fun h => q1 (hk.symm.trans h)
    have hri : readI b = if endS q ≠ 0 ∨ rightI X = false then (zeroI, 3) else (X, 0) := readI_of (by rw [hin, eb])
    rw [hri]
    have cR := (iright_w X mi kx (by omega)).ent (.cons (hE _) .nil)
    generalize rightI X = R at cR ⊢
    haveI j3 : PC Tryz.prog 53 [.a (iC X M)] True (.p (.b R)) := ⟨fun _ => cR⟩
    clear cR hri oq eb hin
    by_cases hz : endS q = 0
    · have d2 : decide (endS q ≠ 0) = false := decide_eq_false fun h => h hz
      cases R with
      | true =>
        have t0 : (!true) = false := rfl
        rw [if_neg (by intro h; rcases h with h | h; exact h hz; cases h)]
        as_aux_lemma =>
          repeat' (first | refine rnC ?_ | refine rnSI ?_ | refine rnG ?_ | refine rnU ?_ | ((fail_if_success (refine rnKn ?_)); refine rnP ?_ ?_ <;> (intro hq; try (have hq' := hq; simp only [hqs] at hq'))) | refine rkC ?_ | refine rkSI ?_ | refine rkF ?_ | refine rkU ?_ | ((fail_if_success (refine rkKn ?_)); refine rkP ?_ ?_ <;> (intro hq; try (have hq' := hq; simp only [hqs] at hq'))) | refine stp ?_ | refine ifT ?_ | refine ifF ?_ | (refine ifQ ?_ ?_ <;> (try (intro hn))) | (refine ifB ?_ ?_ <;> (intro hq; try (have hq' := hq; simp only [hqs] at hq'))))
          exact rc2 rfl rfl rfl rfl rfl (il47 hM) (finI (hF _ _)) rfl finS_p rfl
      | false =>
        have t0 : (!false) = true := rfl
        rw [if_pos (.inr rfl)]
        as_aux_lemma =>
          repeat' (first | refine rnC ?_ | refine rnSI ?_ | refine rnG ?_ | refine rnU ?_ | ((fail_if_success (refine rnKn ?_)); refine rnP ?_ ?_ <;> (intro hq; try (have hq' := hq; simp only [hqs] at hq'))) | refine rkC ?_ | refine rkSI ?_ | refine rkF ?_ | refine rkU ?_ | ((fail_if_success (refine rkKn ?_)); refine rkP ?_ ?_ <;> (intro hq; try (have hq' := hq; simp only [hqs] at hq'))) | refine stp ?_ | refine ifT ?_ | refine ifF ?_ | (refine ifQ ?_ ?_ <;> (try (intro hn))) | (refine ifB ?_ ?_ <;> (intro hq; try (have hq' := hq; simp only [hqs] at hq'))))
          exact rc2 rfl rfl rfl rfl rfl (il47 hz40) (finI fin_zM) rfl finS_p rfl
    · have d2 : decide (endS q ≠ 0) = true := decide_eq_true hz
      rw [if_pos (.inl hz)]
      as_aux_lemma =>
        repeat' (first | refine rnC ?_ | refine rnSI ?_ | refine rnG ?_ | refine rnU ?_ | ((fail_if_success (refine rnKn ?_)); refine rnP ?_ ?_ <;> (intro hq; try (have hq' := hq; simp only [hqs] at hq'))) | refine rkC ?_ | refine rkSI ?_ | refine rkF ?_ | refine rkU ?_ | ((fail_if_success (refine rkKn ?_)); refine rkP ?_ ?_ <;> (intro hq; try (have hq' := hq; simp only [hqs] at hq'))) | refine stp ?_ | refine ifT ?_ | refine ifF ?_ | (refine ifQ ?_ ?_ <;> (try (intro hn))) | (refine ifB ?_ ?_ <;> (intro hq; try (have hq' := hq; simp only [hqs] at hq'))))
        exact rc2 rfl rfl rfl rfl rfl (il47 hz40) (finI fin_zM) rfl finS_p rfl
end Go.Proofs.YtclcfjejpogdlaaGreat.Wi
