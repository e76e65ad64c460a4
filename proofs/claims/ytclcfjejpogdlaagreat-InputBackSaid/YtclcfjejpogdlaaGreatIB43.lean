/- inputs, the laws: Great; alive; inputs, the law InputBack: alive; inputs, the law InputBack; inputs: reading them; InputBack over what was read -/
import Derived.Test.YtclcfjejpogdlaaGreatIB42
import Derived.Test.YtclcfjejpogdlaaGreatIB38
namespace Go.Proofs.YtclcfjejpogdlaaGreat.Wi
open Go Go.RowKit Go.Aw Go.Aw.Cart Go.Aw.Tree Go.Proofs.YtclcfjejpogdlaaGreat.Ca Go.Proofs.YtclcfjejpogdlaaGreat.Rg
set_option linter.unusedVariables false
set_option linter.unusedSimpArgs false
set_option maxRecDepth 8000
set_option maxHeartbeats 4000000
open I4
def greatI (x : Inp) : Bool := decide (100 < (x.key.length : Int)) || greatM x.msg
theorem igreat_g (x : Inp) (M : List AC) [pM : PureL M] (hM : M.length = 40) (kl : x.key.length ≤ 9223372036854775807) (G : Bool) (c : PCall Tryz.prog 23 [.a M] (.p (.b G))) : PCall Tryz.prog 48 [.a (iC x M)] (.p (.b (decide (100 < (x.key.length : Int)) || G))) := by
  refine pcall_of Tryz.func48 rfl (fun w0 F S0 M0 => ?_)
  haveI : PC Tryz.prog 23 [.a M] True (.p (.b G)) := ⟨fun _ => c⟩
  cases d1 : decide (100 < (x.key.length : Int)) with
  | true =>
    rw [Bool.true_or]
    as_aux_lemma =>
      repeat' (first | refine rnC ?_ | refine rnSI ?_ | refine rnG ?_ | refine rnU ?_ | ((fail_if_success (refine rnKn ?_)); refine rnP ?_ ?_ <;> (intro hq; try (have hq' := hq; simp only [hqs] at hq'))) | refine rkC ?_ | refine rkSI ?_ | refine rkF ?_ | refine rkU ?_ | ((fail_if_success (refine rkKn ?_)); refine rkP ?_ ?_ <;> (intro hq; try (have hq' := hq; simp only [hqs] at hq'))) | refine stp ?_ | refine ifT ?_ | refine ifF ?_ | (refine ifQ ?_ ?_ <;> (try (intro hn))) | (refine ifB ?_ ?_ <;> (intro hq; try (have hq' := hq; simp only [hqs] at hq'))))
      exact rt1 rfl rfl finS_p rfl
  | false =>
    rw [Bool.false_or]
    as_aux_lemma =>
      repeat' (first | refine rnC ?_ | refine rnSI ?_ | refine rnG ?_ | refine rnU ?_ | ((fail_if_success (refine rnKn ?_)); refine rnP ?_ ?_ <;> (intro hq; try (have hq' := hq; simp only [hqs] at hq'))) | refine rkC ?_ | refine rkSI ?_ | refine rkF ?_ | refine rkU ?_ | ((fail_if_success (refine rkKn ?_)); refine rkP ?_ ?_ <;> (intro hq; try (have hq' := hq; simp only [hqs] at hq'))) | refine stp ?_ | refine ifT ?_ | refine ifF ?_ | (refine ifQ ?_ ?_ <;> (try (intro hn))) | (refine ifB ?_ ?_ <;> (intro hq; try (have hq' := hq; simp only [hqs] at hq'))))
      exact rt1 rfl rfl finS_p rfl
/-- what Go can hold of an input -/
structure IGo (x : Inp) : Prop where
  key : okB x.key
  kl : x.key.length ≤ 9223372036854775807
  draw : x.draw < 18446744073709551616
  msg : MGo x.msg
theorem igreat_w (x : Inp) (h : IGo x) : PCall Tryz.prog 48 [iV x] (.p (.b (greatI x))) :=
  igreat_g x _ (mL_len h.msg.d32) h.kl _ (great26_w x.msg h.msg)
theorem iin_of {x : Inp} (h : IGo x) (hg : greatI x = false) : IIn x := by
  unfold greatI at hg
  rw [Bool.or_eq_false_iff, decide_eq_false_iff_not] at hg
  obtain ⟨h1, h2⟩ := hg
  obtain ⟨m1, -, -, m4⟩ := min_of h.msg h2
  exact ⟨h.key, by omega, h.draw, m1, m4⟩
def aI3 : Inp := ⟨3, 0, [], (0, 0, 0), 0, zeroM⟩
def aI4 : Inp := ⟨3, 1, [], (0, 0, 0), 0, zeroM⟩
def aI1 : Inp := ⟨1, 5, [97], (1, 2, 3), 0, zeroM⟩
theorem zeroM_gr : greatL zeroM.kds = false := decide_eq_false fun ⟨i, h, _⟩ => absurd h (Nat.not_lt_zero _)
theorem ok97' : okB [97] := fun c hc => by simp at hc; omega
theorem aI3_in : IIn aI3 := ⟨nil_ok, by decide, by decide, zeroM_in, zeroM_gr⟩
theorem aI4_in : IIn aI4 := ⟨nil_ok, by decide, by decide, zeroM_in, zeroM_gr⟩
theorem aI1_in : IIn aI1 := ⟨ok97', by decide, by decide, zeroM_in, zeroM_gr⟩
theorem aI3_r : rightI aI3 = true := by
  unfold rightI
  rw [show ownI aI3 = aI3 from rfl, sameI_refl]
  rfl
theorem aI4_r : rightI aI4 = false := by
  unfold rightI
  have : sameI aI4 (ownI aI4) = false := rfl
  rw [this, Bool.and_false]
theorem key97 : keyR [97] = true := by decide
theorem aI1_r : rightI aI1 = true := by
  unfold rightI
  rw [show ownI aI1 = aI1 from rfl, sameI_refl]
  have : okI aI1 = true := by
    show (cliF 5 [97] && mayF (1, 2, 3)) = true
    unfold cliF
    rw [key97]
    decide
  rw [this]; rfl
theorem aI3_b : inpB aI3 = [1, 3] := by decide
theorem readI_nil : readI [] = (zeroI, 3) := by
  unfold readI
  rw [if_pos]
  left
  decide
end Go.Proofs.YtclcfjejpogdlaaGreat.Wi
namespace Go.Proofs.YtclcfjejpogdlaaGreat.Wi
open Go Go.RowKit Go.Aw Go.Aw.Cart Go.Aw.Tree Go.Proofs.YtclcfjejpogdlaaGreat.Ca Go.Proofs.YtclcfjejpogdlaaGreat.Rg
set_option linter.unusedVariables false
set_option linter.unusedSimpArgs false
set_option maxRecDepth 8000
set_option maxHeartbeats 4000000
theorem lop_buildI2 {C : Ctx} {o : Oper} {σ : St} {T : TypeId} {x0 x1 : Operand} {p0 p1 : PVal} {fs : List (Nat × Nat)} {z : List Value} (ho : o.op = .build T #[(0, x0), (1, x1)]) (hF : TF C.P T fs) (hz : TZ C.P T z) (g0 : σ.look x0 = .p p0) (g1 : σ.look x1 = .p p1) (h1 : z.all (·.oneCell') = true)
    (hb : bfill (fun i => fs[i]?) (z.map fun v => .p (.v v)) [(0, [.p p0]), (1, [.p p1])] = some (.p p0 :: .p p1 :: .p (.v (.string ByteArray.empty)) :: .p (.i 0) :: .p (.i 0) :: .p (.i 0) :: .p (.k .u64 0) :: zMC)) (hd : dOk C o.dst = true) :
    LOp C o σ ⟨.a (.p p0 :: .p p1 :: .p (.v (.string ByteArray.empty)) :: .p (.i 0) :: .p (.i 0) :: .p (.i 0) :: .p (.k .u64 0) :: zMC), []⟩ (fun _ => false) := lop_build2 ho hF hz g0 g1 h1 hb hd
theorem lop_buildI4 {C : Ctx} {o : Oper} {σ : St} {T : TypeId} {x0 x1 x2 x3 : Operand} {p0 p1 p2 : PVal} {a b c : AC} {fs : List (Nat × Nat)} {z : List Value} (ho : o.op = .build T #[(0, x0), (1, x1), (2, x2), (3, x3)]) (hF : TF C.P T fs) (hz : TZ C.P T z) (g0 : σ.look x0 = .p p0) (g1 : σ.look x1 = .p p1) (g2 : σ.look x2 = .p p2) (g3 : σ.look x3 = .a [a, b, c]) (h1 : z.all (·.oneCell') = true)
    (hb : bfill (fun i => fs[i]?) (z.map fun v => .p (.v v)) [(0, [.p p0]), (1, [.p p1]), (2, [.p p2]), (3, [a, b, c])] = some (.p p0 :: .p p1 :: .p p2 :: a :: b :: c :: .p (.k .u64 0) :: zMC)) (hd : dOk C o.dst = true) :
    LOp C o σ ⟨.a (.p p0 :: .p p1 :: .p p2 :: a :: b :: c :: .p (.k .u64 0) :: zMC), []⟩ (fun _ => false) := lop_build4 ho hF hz g0 g1 g2 g3 h1 hb hd
namespace I7
theorem lopC {C : Ctx} {o : Oper} {σ : St} {e : Eff} {ro : Nat → Bool} (h : LOp C o σ e ro := by
    first | (apply lop_buildI4; (focus rfl); (focus exact inferInstance); (focus exact inferInstance); (focus rfl); (focus rfl); (focus rfl); (focus rfl); (focus decide); (focus rfl); (focus rfl)) | (apply lop_buildI2; (focus rfl); (focus exact inferInstance); (focus exact inferInstance); (focus rfl); (focus rfl); (focus decide); (focus rfl); (focus rfl)) | exact I4.lopC | (apply lop_eqls; (focus rfl); (focus exact inferInstance); (focus rfl); (focus rfl); (focus rfl)) | fail) : LOp C o σ e ro := h
section steps
variable {C : Ctx} {ops : Array Oper} {o : Oper} {rest : List Oper} {K : St → Prop} {σ : St} {e : Eff} {ro : Nat → Bool} {W : List (Nat × Nat)} {i : Nat}
theorem rnC {d : Nat} (hk : RunN C ops rest K (e.app (some d) σ)) (hg : Guard ops σ o true := by first | exact gd_n rfl rfl | exact gd_t rfl rfl rfl rfl | exact gd_t rfl rfl rfl (by assumption)) (hd : o.dst = some d := by rfl) (h : LOp C o σ e ro := by exact lopC) : RunN C ops (o :: rest) K σ := rn_any hg hd h hk
end steps
end I7
open I7
theorem alive30_w : PCall Tryz.prog 49 [] (.p (.b true)) := by
  refine pcall_of Tryz.func49 rfl (fun w0 F S0 M0 => ?_)
  have hz40 := zMC_len
  have k1 : PCall Tryz.prog 50 [.a (.p (.i 3) :: .p (.i 0) :: .p (.v (.string ByteArray.empty)) :: .p (.i 0) :: .p (.i 0) :: .p (.i 0) :: .p (.k .u64 0) :: zMC)] (.tup [.one (.p (.sl 1 (([1, 3] : List Nat).map bR) false)), .one (.p (.i 0))]) := by
    have h := (iwrite_ok aI3 aI3_in aI3_r).ent (.cons (me_zero.ent aI3) .nil)
    rw [aI3_b] at h
    exact h
  have k4 : PCall Tryz.prog 50 [.a (.p (.i 3) :: .p (.i 1) :: .p (.v (.string ByteArray.empty)) :: .p (.i 0) :: .p (.i 0) :: .p (.i 0) :: .p (.k .u64 0) :: zMC)] (.tup [.one (.p (.sl 1 (([] : List Nat).map bR) false)), .one (.p (.i 3))]) :=
    (iwrite_no aI4 aI4_in.msg aI4_in.key (by decide) aI4_r).ent (.cons (me_zero.ent aI4) .nil)
  obtain ⟨B, hB⟩ : ∃ B, B = inpB aI1 := ⟨_, rfl⟩
  have k2 : PCall Tryz.prog 50 [.a (.p (.i 1) :: .p (.i 5) :: .p (.v (.string { data := #[97] })) :: .p (.i 1) :: .p (.i 2) :: .p (.i 3) :: .p (.k .u64 0) :: zMC)] (.tup [.one (.p (.sl 1 (B.map bR) false)), .one (.p (.i 0))]) := by
    rw [hB]
    exact (iwrite_ok aI1 aI1_in aI1_r).ent (.cons (me_zero.ent aI1) .nil)
  have k3 := iread_w B (by rw [hB]; exact inpB_ok aI1_in) (by rw [hB]; have := inpB_le aI1_in aI1_r; omega)
  rw [hB, iread_back aI1_in aI1_r, ← hB] at k3
  have k5 : PCall Tryz.prog 51 [.p (.v (.slice none 0 0))] (.tup [.agg (iC zeroI (mL zeroM)), .one (.p (.i 3))]) := by
    have h := iread_w [] nil_ok (by decide)
    rw [readI_nil] at h
    exact h.ent (.cons Ent1.nil .nil)
  have k6 : PCall Tryz.prog 56 [.a (.p (.i 1) :: .p (.i 5) :: .p (.v (.string { data := #[97] })) :: .p (.i 1) :: .p (.i 2) :: .p (.i 3) :: .p (.k .u64 0) :: zMC), .a (iC aI1 (mL zeroM))] (.p (.b true)) := by
    have h := isame_w aI1 aI1 aI1_in.msg aI1_in.msg aI1_in.key aI1_in.key
    rw [sameI_refl] at h
    exact h.ent (.cons (me_zero.ent aI1) (.cons Ent1.refl .nil))
  have k7 : PCall Tryz.prog 53 [.a (.p (.i 1) :: .p (.i 5) :: .p (.v (.string { data := #[97] })) :: .p (.i 1) :: .p (.i 2) :: .p (.i 3) :: .p (.k .u64 0) :: zMC)] (.p (.b true)) := by
    have h := iright_w aI1 aI1_in.msg aI1_in.key (by decide)
    rw [aI1_r] at h
    exact h.ent (.cons (me_zero.ent aI1) .nil)
  have k3' : PCall Tryz.prog 51 [.p (.sl 1 (B.map bR) false)] (.tup [.agg (iC aI1 (mL zeroM)), .one (.p (.i 0))]) := k3
  clear k3 hB
  have hZ : (mL zeroM).length = 40 := mL_len rfl
  have pZ : PureL (mL zeroM) := inferInstance
  revert k3' k5 k6 hZ pZ
  generalize mL zeroM = Z
  intro k3 k5 k6 hZ pZ
  haveI i1 : PC _ _ _ True _ := ⟨fun _ => k1⟩
  haveI i2 : PC _ _ _ True _ := ⟨fun _ => k2⟩
  haveI i3 : PC _ _ _ True _ := ⟨fun _ => k3⟩
  haveI i4 : PC _ _ _ True _ := ⟨fun _ => k4⟩
  haveI i5 : PC _ _ _ True _ := ⟨fun _ => k5⟩
  haveI i6 : PC _ _ _ True _ := ⟨fun _ => k6⟩
  haveI i7 : PC _ _ _ True _ := ⟨fun _ => k7⟩
  clear k1 k2 k3 k4 k5 k6 k7
  as_aux_lemma =>
    repeat' (first | refine rnC ?_ | refine rnSI ?_ | refine rnG ?_ | refine rnU ?_ | ((fail_if_success (refine rnKn ?_)); refine rnP ?_ ?_ <;> (intro hq; try (have hq' := hq; simp only [hqs] at hq'))) | refine rkC ?_ | refine rkSI ?_ | refine rkF ?_ | refine rkU ?_ | ((fail_if_success (refine rkKn ?_)); refine rkP ?_ ?_ <;> (intro hq; try (have hq' := hq; simp only [hqs] at hq'))) | refine stp ?_ | refine ifT ?_ | refine ifF ?_ | (refine ifQ ?_ ?_ <;> (try (intro hn))) | (refine ifB ?_ ?_ <;> (intro hq; try (have hq' := hq; simp only [hqs] at hq'))))
    exact rt1 rfl rfl finS_p rfl
end Go.Proofs.YtclcfjejpogdlaaGreat.Wi
namespace Go.Proofs.YtclcfjejpogdlaaGreat.Wi
open Go Go.RowKit Go.Aw Go.Aw.Cart Go.Aw.Tree Go.Proofs.YtclcfjejpogdlaaGreat.Ca Go.Proofs.YtclcfjejpogdlaaGreat.Rg
set_option linter.unusedVariables false
set_option linter.unusedSimpArgs false
set_option maxRecDepth 8000
set_option maxHeartbeats 4000000
theorem rvI_none : RV (.tup [.agg (iC zeroI (mL zeroM)), .one (.p (.i 3))]) := by
  refine rvm_t2 (fun x hx => ?_) fun _ _ _ _ h => h
  rcases List.mem_append.1 (show x ∈ [AC.p (.i zeroI.kind), .p (.i zeroI.id), .p (.v (.string (strOf zeroI.key))), .p (.i zeroI.op.1), .p (.i zeroI.op.2.1), .p (.i zeroI.op.2.2), .p (.k .u64 (zeroI.draw : Int))] ++ mL zeroM from hx) with hx | hx
  · simp only [List.mem_cons, List.not_mem_nil, or_false] at hx
    rcases hx with rfl | rfl | rfl | rfl | rfl | rfl | rfl
    all_goals exact fun _ _ _ _ h => h
  · simp only [mL, zeroM, List.mem_append, List.mem_cons, List.mem_map, List.not_mem_nil, or_false] at hx
    rcases hx with rfl | rfl | rfl | rfl | rfl | ⟨n, _, rfl⟩ | rfl | rfl | rfl
    all_goals first | exact rvm_sl0 | exact fun _ _ _ _ h => h
namespace I8
theorem lopC {C : Ctx} {o : Oper} {σ : St} {e : Eff} {ro : Nat → Bool} (h : LOp C o σ e ro := by
    first | (apply lop_lend1; (focus rfl); (focus exact inferInstance); (focus rfl); (focus rfl); (focus rfl); (focus exact (List.length_map ..).symm); (focus exact inferInstance); (focus first | exact True.intro | assumption | rfl | omega | ((repeat' (first | assumption | refine And.intro ?_ ?_ | omega | rfl)); done) | fail); (focus assumption); (focus rfl)) | exact I4.lopC | fail) : LOp C o σ e ro := h
section steps
variable {C : Ctx} {ops : Array Oper} {o : Oper} {rest : List Oper} {K : St → Prop} {σ : St} {e : Eff} {ro : Nat → Bool} {W : List (Nat × Nat)} {i : Nat}
theorem rnC {d : Nat} (hk : RunN C ops rest K (e.app (some d) σ)) (hg : Guard ops σ o true := by first | exact gd_n rfl rfl | exact gd_t rfl rfl rfl rfl | exact gd_t rfl rfl rfl (by assumption)) (hd : o.dst = some d := by rfl) (h : LOp C o σ e ro := by exact lopC) : RunN C ops (o :: rest) K σ := rn_any hg hd h hk
theorem rkC {d : Nat} (hk : RunK C ops W (i + 1) rest K (e.app (some d) σ)) (hg : Guard ops σ o true := by first | exact gd_n rfl rfl | exact gd_t rfl rfl rfl rfl | exact gd_t rfl rfl rfl (by assumption)) (hd' : o.dst = some d := by rfl) (hd : dOk C o.dst = true := by rfl) (h : LOp C o σ e ro := by exact lopC)
    (hro : ∀ x, ro x = true → okObj ops W i x = true := by first | exact fun _ => ro_none | exact ro_one rfl | exact ro_k1 rfl | exact ro_one (by kernel_rfl) | exact ro_k1 (by kernel_rfl) | exact ro_kIn (by decide)) (hob : ∀ p ∈ e.obj, (i, p.1) ∈ W := by first | exact ob_none | exact ob_one (by decide) | decide) : RunK C ops W i (o :: rest) K σ := rk_wr hg hd' hd h hro hob hk
end steps
end I8
open I8
instance alive30_i : PC Tryz.prog 49 [] True (.p (.b true)) := ⟨fun _ => alive30_w⟩
theorem inputBack_g (x y : Inp) (M N : List AC) [pM : PureL M] [pN : PureL N] (hM : M.length = 40) (hN : N.length = 40) (cut : Int) (G1 G2 : Bool)
    (g1 : PCall Tryz.prog 48 [.a (iC x M)] (.p (.b G1))) (g2 : PCall Tryz.prog 48 [.a (iC y N)] (.p (.b G2)))
    (A B : List Nat) (e q : Int) (w1 : G1 = false → PCall Tryz.prog 50 [.a (iC x M)] (.tup [.one (.p (.sl 1 (A.map bR) false)), .one (.p (.i e))])) (w2 : G2 = false → PCall Tryz.prog 50 [.a (iC y N)] (.tup [.one (.p (.sl 1 (B.map bR) false)), .one (.p (.i q))]))
    (hx : G1 = false → G2 = false → e = 0 → q = 0 → okB A ∧ okB B ∧ A.length ≤ 1000000 ∧ B.length ≤ 1000000 ∧ ∃ Z : List AC, Z.length = 40 ∧ PureL Z ∧ RV (.tup [.agg (iC zeroI Z), .one (.p (.i 3))]) ∧ PCall Tryz.prog 51 [.p (.sl 1 (A.map bR) false)] (.tup [.agg (iC x M), .one (.p (.i 0))]) ∧ PCall Tryz.prog 51 [.p (.sl 1 (((([] : List Nat) ++ A) ++ [0]).map bR) false)] (.tup [.agg (iC zeroI Z), .one (.p (.i 3))])
      ∧ (∀ k : Nat, k < A.length → PCall Tryz.prog 51 [.p (.sl 1 ((A.take k).map bR) false)] (.tup [.agg (iC zeroI Z), .one (.p (.i 3))])) ∧ PCall Tryz.prog 56 [.a (iC x M), .a (iC x M)] (.p (.b true)) ∧ PCall Tryz.prog 56 [.a (iC x M), .a (iC y N)] (.p (.b (decide (A = B))))) :
    PCall Tryz.prog 9 [.a (iC x M), .a (iC y N), .p (.i cut)] (.p (.b true)) := by
  refine pcall_of Tryz.func9 rfl (fun w0 F S0 M0 => ?_)
  haveI i1 : PC Tryz.prog 48 [.a (iC x M)] True (.p (.b G1)) := ⟨fun _ => g1⟩
  haveI i2 : PC Tryz.prog 48 [.a (iC y N)] True (.p (.b G2)) := ⟨fun _ => g2⟩
  clear g1 g2
  cases G1 with
  | true =>
    as_aux_lemma =>
      repeat' (first | refine rnC ?_ | refine rnSI ?_ | refine rnG ?_ | refine rnU ?_ | ((fail_if_success (refine rnKn ?_)); refine rnP ?_ ?_ <;> (intro hq; try (have hq' := hq; simp only [hqs] at hq'))) | refine rkC ?_ | refine rkSI ?_ | refine rkF ?_ | refine rkU ?_ | ((fail_if_success (refine rkKn ?_)); refine rkP ?_ ?_ <;> (intro hq; try (have hq' := hq; simp only [hqs] at hq'))) | refine stp ?_ | refine aws_draws [] mixed (by kernel_rfl) ?_ | refine ifT ?_ | refine ifF ?_ | (refine ifQ ?_ ?_ <;> (try (intro hn))) | (refine ifB ?_ ?_ <;> (intro hq; try (have hq' := hq; simp only [hqs] at hq'))))
      exact rt1 rfl rfl finS_p rfl
  | false =>
  cases G2 with
  | true =>
    as_aux_lemma =>
      repeat' (first | refine rnC ?_ | refine rnSI ?_ | refine rnG ?_ | refine rnU ?_ | ((fail_if_success (refine rnKn ?_)); refine rnP ?_ ?_ <;> (intro hq; try (have hq' := hq; simp only [hqs] at hq'))) | refine rkC ?_ | refine rkSI ?_ | refine rkF ?_ | refine rkU ?_ | ((fail_if_success (refine rkKn ?_)); refine rkP ?_ ?_ <;> (intro hq; try (have hq' := hq; simp only [hqs] at hq'))) | refine stp ?_ | refine aws_draws [] mixed (by kernel_rfl) ?_ | refine ifT ?_ | refine ifF ?_ | (refine ifQ ?_ ?_ <;> (try (intro hn))) | (refine ifB ?_ ?_ <;> (intro hq; try (have hq' := hq; simp only [hqs] at hq'))))
      exact rt1 rfl rfl finS_p rfl
  | false =>
  haveI i3 : PC Tryz.prog 50 [.a (iC x M)] True (.tup [.one (.p (.sl 1 (A.map bR) false)), .one (.p (.i e))]) := ⟨fun _ => w1 rfl⟩
  haveI i4 : PC Tryz.prog 50 [.a (iC y N)] True (.tup [.one (.p (.sl 1 (B.map bR) false)), .one (.p (.i q))]) := ⟨fun _ => w2 rfl⟩
  have hx := hx rfl rfl
  clear w1 w2
  by_cases he : e = 0
  rotate_left
  · have d1 : decide (e ≠ 0) = true := decide_eq_true he
    clear hx
    as_aux_lemma =>
      repeat' (first | refine rnC ?_ | refine rnSI ?_ | refine rnG ?_ | refine rnU ?_ | ((fail_if_success (refine rnKn ?_)); refine rnP ?_ ?_ <;> (intro hq; try (have hq' := hq; simp only [hqs] at hq'))) | refine rkC ?_ | refine rkSI ?_ | refine rkF ?_ | refine rkU ?_ | ((fail_if_success (refine rkKn ?_)); refine rkP ?_ ?_ <;> (intro hq; try (have hq' := hq; simp only [hqs] at hq'))) | refine stp ?_ | refine aws_draws [] mixed (by kernel_rfl) ?_ | refine ifT ?_ | refine ifF ?_ | (refine ifQ ?_ ?_ <;> (try (intro hn))) | (refine ifB ?_ ?_ <;> (intro hq; try (have hq' := hq; simp only [hqs] at hq'))))
      exact rt1 rfl rfl finS_p rfl
  by_cases hq : q = 0
  rotate_left
  · have d1 : decide (e ≠ 0) = false := decide_eq_false fun h => h he
    have d2 : decide (q ≠ 0) = true := decide_eq_true hq
    clear hx
    as_aux_lemma =>
      repeat' (first | refine rnC ?_ | refine rnSI ?_ | refine rnG ?_ | refine rnU ?_ | ((fail_if_success (refine rnKn ?_)); refine rnP ?_ ?_ <;> (intro hq; try (have hq' := hq; simp only [hqs] at hq'))) | refine rkC ?_ | refine rkSI ?_ | refine rkF ?_ | refine rkU ?_ | ((fail_if_success (refine rkKn ?_)); refine rkP ?_ ?_ <;> (intro hq; try (have hq' := hq; simp only [hqs] at hq'))) | refine stp ?_ | refine aws_draws [] mixed (by kernel_rfl) ?_ | refine ifT ?_ | refine ifF ?_ | (refine ifQ ?_ ?_ <;> (try (intro hn))) | (refine ifB ?_ ?_ <;> (intro hq; try (have hq' := hq; simp only [hqs] at hq'))))
      exact rt1 rfl rfl finS_p rfl
  obtain ⟨oA, oB, lA, lB, Z, hZ, pZ, rv, c1, c2, c3, c4, c5⟩ := hx he hq
  have d1 : decide (e ≠ 0) = false := decide_eq_false fun h => h he
  have d2 : decide (q ≠ 0) = false := decide_eq_false fun h => h hq
  haveI i5 : PC Tryz.prog 51 [.p (.sl 1 (A.map bR) false)] True (.tup [.agg (iC x M), .one (.p (.i 0))]) := ⟨fun _ => c1⟩
  haveI i6 : PC Tryz.prog 51 [.p (.sl 1 (((([] : List Nat) ++ A) ++ [0]).map bR) false)] True (.tup [.agg (iC zeroI Z), .one (.p (.i 3))]) := ⟨fun _ => c2⟩
  haveI i7 : PC Tryz.prog 56 [.a (iC x M), .a (iC x M)] True (.p (.b true)) := ⟨fun _ => c4⟩
  have c9 : ∀ b : Bool, decide (A = B) = b → PC Tryz.prog 56 [.a (iC x M), .a (iC y N)] True (.p (.b b)) := fun b hb => ⟨fun _ => hb ▸ c5⟩
  have c7 : cut < A.length → 0 ≤ cut → PC Tryz.prog 51 [.p (.sl 1 ((A.take cut.toNat).map bR) false)] True (.tup [.agg (iC zeroI Z), .one (.p (.i 3))]) := fun h1 h0 => ⟨fun _ => c3 cut.toNat (by omega)⟩
  have t0 : (!true) = false := rfl
  clear c1 c2 c3 c4 c5 hx
  obtain ⟨s, hab⟩ : ∃ s, decide (A = B) = s := ⟨_, rfl⟩
  have d5 : (decide (A = B) != s) = false := by rw [hab]; cases s <;> rfl
  haveI := c9 _ hab
  clear hab c9
  by_cases h0 : 0 ≤ cut
  · have d3 : decide (0 ≤ cut) = true := decide_eq_true h0
    by_cases h1 : cut < A.length
    · have d4 : decide (cut < (A.length : Int)) = true := decide_eq_true h1
      haveI := c7 h1 h0
      as_aux_lemma =>
        repeat' (first | refine rnC ?_ | refine rnSI ?_ | refine rnG ?_ | refine rnU ?_ | ((fail_if_success (refine rnKn ?_)); refine rnP ?_ ?_ <;> (intro hq; try (have hq' := hq; simp only [hqs] at hq'))) | refine rkC ?_ | refine rkSI ?_ | refine rkF ?_ | refine rkU ?_ | ((fail_if_success (refine rkKn ?_)); refine rkP ?_ ?_ <;> (intro hq; try (have hq' := hq; simp only [hqs] at hq'))) | refine stp ?_ | refine aws_draws [] mixed (by kernel_rfl) ?_ | refine ifT ?_ | refine ifF ?_ | (refine ifQ ?_ ?_ <;> (try (intro hn))) | (refine ifB ?_ ?_ <;> (intro hq; try (have hq' := hq; simp only [hqs] at hq'))))
        exact rt1 rfl rfl finS_p rfl
    · have d4 : decide (cut < (A.length : Int)) = false := decide_eq_false h1
      as_aux_lemma =>
        repeat' (first | refine rnC ?_ | refine rnSI ?_ | refine rnG ?_ | refine rnU ?_ | ((fail_if_success (refine rnKn ?_)); refine rnP ?_ ?_ <;> (intro hq; try (have hq' := hq; simp only [hqs] at hq'))) | refine rkC ?_ | refine rkSI ?_ | refine rkF ?_ | refine rkU ?_ | ((fail_if_success (refine rkKn ?_)); refine rkP ?_ ?_ <;> (intro hq; try (have hq' := hq; simp only [hqs] at hq'))) | refine stp ?_ | refine aws_draws [] mixed (by kernel_rfl) ?_ | refine ifT ?_ | refine ifF ?_ | (refine ifQ ?_ ?_ <;> (try (intro hn))) | (refine ifB ?_ ?_ <;> (intro hq; try (have hq' := hq; simp only [hqs] at hq'))))
        exact rt1 rfl rfl finS_p rfl
  · have d3 : decide (0 ≤ cut) = false := decide_eq_false h0
    as_aux_lemma =>
      repeat' (first | refine rnC ?_ | refine rnSI ?_ | refine rnG ?_ | refine rnU ?_ | ((fail_if_success (refine rnKn ?_)); refine rnP ?_ ?_ <;> (intro hq; try (have hq' := hq; simp only [hqs] at hq'))) | refine rkC ?_ | refine rkSI ?_ | refine rkF ?_ | refine rkU ?_ | ((fail_if_success (refine rkKn ?_)); refine rkP ?_ ?_ <;> (intro hq; try (have hq' := hq; simp only [hqs] at hq'))) | refine stp ?_ | refine aws_draws [] mixed (by kernel_rfl) ?_ | refine ifT ?_ | refine ifF ?_ | (refine ifQ ?_ ?_ <;> (try (intro hn))) | (refine ifB ?_ ?_ <;> (intro hq; try (have hq' := hq; simp only [hqs] at hq'))))
      exact rt1 rfl rfl finS_p rfl
theorem inputBack_w (x y : Inp) (cut : Int) (hx : IGo x) (hy : IGo y) : PCall Tryz.prog 9 [iV x, iV y, .p (.i cut)] (.p (.b true)) := by
  have w : ∀ z : Inp, IGo z → greatI z = false → PCall Tryz.prog 50 [iV z] (.tup [.one (.p (.sl 1 ((if rightI z = true then inpB z else []).map bR) false)), .one (.p (.i (if rightI z = true then 0 else 3)))]) := fun z hz hg => by
    have hi := iin_of hz hg
    cases hr : rightI z with
    | true => rw [if_pos rfl, if_pos rfl]; exact iwrite_ok z hi hr
    | false => rw [if_neg (by decide), if_neg (by decide)]; exact iwrite_no z hi.msg hi.key (by have := hi.kl; omega) hr
  have r : ∀ z : Inp, (if rightI z = true then (0 : Int) else 3) = 0 → rightI z = true := fun z h => by
    by_cases q : rightI z = true
    · exact q
    · rw [if_neg q] at h; exact absurd h (by decide)
  refine inputBack_g x y _ _ (mL_len hx.msg.d32) (mL_len hy.msg.d32) cut _ _ (igreat_w x hx) (igreat_w y hy) _ _ _ _ (w x hx) (w y hy) (fun h1 h2 e1 e2 => ?_)
  have ix := iin_of hx h1
  have iy := iin_of hy h2
  have rx := r x e1
  have ry := r y e2
  rw [if_pos rx, if_pos ry]
  have okx := inpB_ok ix
  have oky := inpB_ok iy
  have lx := inpB_le ix rx
  have ly := inpB_le iy ry
  have hs := isame_w x x ix.msg ix.msg ix.key ix.key
  rw [sameI_refl] at hs
  have ht := isame_w x y ix.msg iy.msg ix.key iy.key
  rw [show sameI x y = decide (inpB x = inpB y) by
    rw [Bool.eq_iff_iff, decide_eq_true_iff, sameI_iff]
    exact ⟨fun h => by rw [h], fun h => inpB_inj ix rx iy ry h⟩] at ht
  have ra := iread_w (inpB x) okx (by omega)
  rw [iread_back ix rx] at ra
  have ok0 : okB (inpB x ++ [0]) := okB_app okx (fun c hc => by simp at hc; omega)
  have rb := iread_w ((([] : List Nat) ++ inpB x) ++ [0]) ok0 (by simp; omega)
  rw [show readI ((([] : List Nat) ++ inpB x) ++ [0]) = (zeroI, 3) from iread_more ix rx] at rb
  refine ⟨okx, oky, lx, ly, mL zeroM, mL_len rfl, inferInstance, rvI_none, ra, rb, fun k hk => ?_, hs, ht⟩
  have rc := iread_w ((inpB x).take k) (fun c hc => okx c (List.mem_of_mem_take hc)) (by rw [List.length_take]; omega)
  rw [iread_cut ix rx hk] at rc
  exact rc
end Go.Proofs.YtclcfjejpogdlaaGreat.Wi
namespace Go.Proofs.YtclcfjejpogdlaaGreat.Wi
open Go Go.RowKit Go.Aw Go.Aw.Cart Go.Aw.Tree Go.Proofs.YtclcfjejpogdlaaGreat.Ca Go.Proofs.YtclcfjejpogdlaaGreat.Rg
set_option linter.unusedVariables false
set_option maxRecDepth 8000
theorem rd_op3 : Reads Tryz.prog 92 Op3 (fun o => opR o) (fun _ => True) :=
  (reads_struct (inferInstance : TI Tryz.prog 92 _ _ _)
    (readsFs_cons (inferInstance : TI Tryz.prog 3 _ _ _) Ca.rd_int (readsFs_cons (inferInstance : TI Tryz.prog 3 _ _ _) Ca.rd_int (readsFs_cons (inferInstance : TI Tryz.prog 3 _ _ _) Ca.rd_int (readsFs_nil rfl))))).imp
    (fun x => (x.1, x.2.1, x.2.2.1)) (fun x => rfl) (fun x h => trivial)
theorem rd_drw : Reads Tryz.prog 93 Nat (fun n => [PVal.k .u64 (n : Int)]) (fun n => n < 18446744073709551616) :=
  (Ca.rd_u64 : Reads Tryz.prog 93 Int _ _).imp' Int.toNat (fun n h => by rw [Int.toNat_of_nonneg h.1]) (fun n h => by omega)
def iRow (x : Inp) : List PVal := [PVal.i x.kind, PVal.i x.id, PVal.v (.string (strOf x.key))] ++ (opR x.op ++ ([PVal.k .u64 (x.draw : Int)] ++ mRow x.msg))
theorem rd_inp : Reads Tryz.prog 95 Inp iRow IGo :=
  (reads_struct (inferInstance : TI Tryz.prog 95 _ _ _)
    (readsFs_cons (inferInstance : TI Tryz.prog 3 _ _ _) Ca.rd_int (readsFs_cons (inferInstance : TI Tryz.prog 3 _ _ _) Ca.rd_int (readsFs_cons (inferInstance : TI Tryz.prog 9 _ _ _) rd_keyP
    (readsFs_cons (inferInstance : TI Tryz.prog 92 _ _ _) rd_op3 (readsFs_cons (inferInstance : TI Tryz.prog 93 _ _ _) rd_drw (readsFs_cons (inferInstance : TI Tryz.prog 43 _ _ _) rd_msg (readsFs_nil rfl)))))))).imp'
    (fun x => ⟨x.1, x.2.1, x.2.2.1, x.2.2.2.1, x.2.2.2.2.1, x.2.2.2.2.2.1⟩) (fun x _ => by unfold iRow; simp only [List.append_nil, List.cons_append, List.nil_append]) (fun x h => by
      obtain ⟨_, _, h3, _, h5, h6, _⟩ := h
      exact ⟨h3.1, h3.2, h5, h6⟩)
theorem i_arg (x : Inp) : argAV true (iRow x) = iV x := by
  have h := m_arg x.msg
  have h2 : (mRow x.msg).map AC.p = mL x.msg := by
    have : AV.a ((mRow x.msg).map .p) = AV.a (mL x.msg) := h
    injection this with k
    injection k
  show AV.a ((iRow x).map .p) = AV.a (iC x (mL x.msg))
  unfold iRow
  rw [List.map_append, List.map_append, List.map_append, h2]
  rfl
theorem inputBack_a (x y : Inp) (cut : Int) (hx : IGo x) (hy : IGo y) : PCall Tryz.prog 9 [argAV true (iRow x), argAV true (iRow y), argAV false [PVal.k .i64 cut]] (.p (.b true)) := by
  rw [i_arg, i_arg]
  exact inputBack_w x y cut hx hy
end Go.Proofs.YtclcfjejpogdlaaGreat.Wi
