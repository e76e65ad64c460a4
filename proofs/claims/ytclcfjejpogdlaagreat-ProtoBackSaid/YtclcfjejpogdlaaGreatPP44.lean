/- messages, the law ProtoBack: what lives; messages, the law ProtoBack: alive -/
import Derived.Test.YtclcfjejpogdlaaGreatPP43
namespace Go.Aw
set_option linter.unusedVariables false
section ops
variable {C : Ctx} {o : Oper} {σ : St}
/-- so many zero elements, never written -/
theorem lop_makeP {T e : TypeId} {x y : Operand} {sz by_ : Nat} {ke : TK} {es be c : Nat} {z : List Value} {kx ky : IntKind} (ho : o.op = .makeSlice T x y) (hT : TI C.P T (.slice e) sz by_) (he : TI C.P e ke es be) (hz : TZ C.P e z) (hx : σ.look x = .p (.v (.int kx c))) (hy : σ.look y = .p (.v (.int ky c))) (hzl : z.length = es) (h0 : 0 < es) (h63 : (c : Int) ≤ 2147483648) (hby : (be : Int) * c ≤ 281474976710656) (h1 : z.all (·.oneCell') = true) (hd : dOk C o.dst = true) :
    LOp C o σ ⟨.p (.sl es (List.replicate c (z.map .v)) true), []⟩ (fun _ => false) :=
  lop_grow hd fun τ a w G hl hm' h => by
    have e1 := val_of h ((hl x (by simp [ho, Op.operands])).trans hx)
    have e2 := val_of h ((hl y (by simp [ho, Op.operands])).trans hy)
    obtain ⟨dd, hdd, hkk⟩ := hT.undd
    have : dd = .slice e := by cases dd <;> simp [TK.of] at hkk; rw [hkk]
    subst this
    obtain ⟨i, hi, his, hib⟩ := he.infoo
    have hzz := hz.zero
    simp only [hi, Option.bind_some] at hzz
    cases hz0 : i.zero with
    | none => simp [hz0] at hzz
    | some zv =>
      simp only [hz0, Option.map_some, Option.some.injEq] at hzz
      have hr := run_make (P := C.P) w T e i zv hdd hi hz0 kx ky c c (by omega) (Int.le_refl _) (by rw [hib]; exact hby) (by omega)
      simp only [Int.toNat_natCast] at hr
      have hzs : zv.cells.size = es := by rw [← hzl, ← hzz, Array.length_toList]
      refine ⟨.slice (some ⟨w.heap.size, 0, none⟩) c c, w.alloc (.cells (madeCells zv.cells (c * i.size)) e), ?_, Quiet.alloc _ _, ?_⟩
      · simp only [execOp, ho, e1, e2, Sem.run_bind, hr, Result.andThen_ok, Sem.run_pure]
      · refine ⟨some ⟨w.heap.size, 0, none⟩, c, ?_, ?_, ?_, ?_, .inr ⟨rfl, ?_, madeCells zv.cells (c * i.size), e, (0, 0), by simpa using heap_alloc_new w _, ?_⟩⟩
        · simp
        · simp
        · simp only [maxLen]; omega
        · simp
        · simp
        · intro q row hq
          rw [List.getElem?_replicate] at hq
          split at hq
          · rename_i hlt
            obtain rfl := Option.some.inj hq
            refine ⟨by rw [List.length_map, hzl], fun j p hp => ?_⟩
            rw [List.getElem?_map] at hp
            cases hj : z[j]? with
            | none => rw [hj] at hp; cases hp
            | some v =>
              rw [hj] at hp
              obtain rfl := Option.some.inj hp
              obtain ⟨hjl, hjv⟩ := List.getElem?_eq_some_iff.1 hj
              refine ⟨v, ?_, rfl, List.all_eq_true.1 h1 v (List.mem_of_getElem? hj)⟩
              have hlt' : q * es + j < c * i.size := by
                rw [his]
                have : (q + 1) * es ≤ c * es := Nat.mul_le_mul_right _ hlt
                rw [Nat.add_mul, Nat.one_mul] at this
                omega
              have hmod : (q * es + j) % es = j := by
                rw [Nat.mul_comm, Nat.mul_add_mod, Nat.mod_eq_of_lt (by omega)]
              rw [Nat.zero_add]
              have hjz : j < zv.cells.size := by omega
              have hv : zv.cells[j] = v := by
                have : zv.cells.toList[j]? = some v := by rw [hzz]; exact hj
                rw [Array.getElem?_toList] at this
                rw [Array.getElem?_eq_getElem hjz] at this
                exact Option.some.inj this
              unfold madeCells
              rw [Array.getElem?_map, Array.getElem?_range, if_pos hlt', Option.map_some, hzs, hmod, getElem!_pos zv.cells j hjz, hv]
          · cases hq
end ops
end Go.Aw
namespace Go.Proofs.YtclcfjejpogdlaaGreat.Wi
open Go Go.RowKit Go.Aw Go.Aw.Cart Go.Aw.Tree Go.Proofs.YtclcfjejpogdlaaGreat.Ca Go.Proofs.YtclcfjejpogdlaaGreat.Rg
set_option linter.unusedVariables false
set_option linter.unusedSimpArgs false
set_option maxRecDepth 8000
set_option maxHeartbeats 4000000
theorem ent_m {p0 p1 p2 p3 p4 x y z x' y' z' : PVal} {d : List Nat} (h1 : PE x x') (h2 : PE y y') (h3 : PE z z') : Ent1 (.a (.p p0 :: .p p1 :: .p p2 :: .p p3 :: .p p4 :: (d.map bcD ++ [.p x, .p y, .p z]))) (.a (.p p0 :: .p p1 :: .p p2 :: .p p3 :: .p p4 :: (d.map bcD ++ [.p x', .p y', .p z']))) := by
  have e : ∀ a b c : PVal, (.p p0 :: .p p1 :: .p p2 :: .p p3 :: .p p4 :: (d.map bcD ++ [.p a, .p b, .p c]) : List AC) = (p0 :: p1 :: p2 :: p3 :: p4 :: (d.map (fun n : Nat => PVal.v (.int .u8 n)) ++ [a, b, c])).map .p := fun a b c => by
    simp only [List.map_cons, List.map_append, List.map_map, List.map_nil]
    rfl
  rw [e, e]
  refine Ent1.cells (.cons .refl (.cons .refl (.cons .refl (.cons .refl (.cons .refl ?_)))))
  induction d with
  | nil => exact .cons h1 (.cons h2 (.cons h3 .nil))
  | cons a d ih =>
    refine .cons .refl (ih fun a b c => ?_)
    simp only [List.map_cons, List.map_append, List.map_map, List.map_nil]
    rfl
def aD : List Nat := 5 :: List.replicate 31 0
def aM1 : Msg := ⟨1, 1, 2, 3, 4, aD, [], [], []⟩
def aM2 : Msg := ⟨1, 1, 1, 3, 4, aD, [], [], []⟩
def aM5 : Msg := ⟨5, 2, 1, 3, 0, zeroD, [0], List.replicate 4 zeroD, []⟩
theorem aD_ok : okB aD := by intro c hc; simp [aD] at hc; omega
theorem aM1_in : MIn aM1 := ⟨rfl, aD_ok, by decide, by decide, fun d hd => (by cases hd), by decide, fun d hd => (by cases hd), fun d hd => (by cases hd)⟩
theorem aM2_in : MIn aM2 := ⟨rfl, aD_ok, by decide, by decide, fun d hd => (by cases hd), by decide, fun d hd => (by cases hd), fun d hd => (by cases hd)⟩
theorem zeroD_ok : okB zeroD := fun c hc => by rw [List.eq_of_mem_replicate hc]; decide
theorem aM5_in : MIn aM5 := ⟨rfl, zeroD_ok, by decide, by decide, fun d hd => (by rw [List.eq_of_mem_replicate hd]; exact ⟨rfl, zeroD_ok⟩), by decide, fun d hd => (by cases hd), fun d hd => (by cases hd)⟩
theorem aM1_r : rightM aM1 = true := by decide
theorem aM2_r : rightM aM2 = false := by decide
theorem aM5_r : rightM aM5 = true := by decide
theorem aM1_l : (msgB aM1).length = 45 := by decide
theorem nil_no : readM [] = (zeroM, 3) := readM_err (by decide)
end Go.Proofs.YtclcfjejpogdlaaGreat.Wi
namespace Go.Proofs.YtclcfjejpogdlaaGreat.Wi
open Go Go.RowKit Go.Aw Go.Aw.Cart Go.Aw.Tree Go.Proofs.YtclcfjejpogdlaaGreat.Ca Go.Proofs.YtclcfjejpogdlaaGreat.Rg
set_option linter.unusedVariables false
set_option linter.unusedSimpArgs false
set_option maxRecDepth 8000
set_option maxHeartbeats 4000000
open V1
theorem alive26_w : PCall Tryz.prog 24 [] (.p (.b true)) := by
  refine pcall_of Tryz.func24 rfl (fun w0 F S0 M0 => ?_)
  obtain ⟨D, hD⟩ : ∃ D, D = aD := ⟨_, rfl⟩
  obtain ⟨G, hG⟩ : ∃ G, G = List.replicate 4 zeroD := ⟨_, rfl⟩
  obtain ⟨B, hB⟩ : ∃ B, B = msgB aM1 := ⟨_, rfl⟩
  have h32 : (D.map bcD).length = 32 := by rw [hD]; rfl
  have hD32 : D.length = 32 := by rw [hD]; rfl
  have z32 : (zeroD.map bcD).length = 32 := rfl
  have k1 : PCall Tryz.prog 26 [.a (.p (.i 1) :: .p (.i 1) :: .p (.i 2) :: .p (.i 3) :: .p (.i 4) :: (D.map bcD ++ [.p (.v (.slice none 0 0)), .p (.v (.slice none 0 0)), .p (.v (.slice none 0 0))]))] (.tup [.one (.p (.sl 1 (B.map bR) false)), .one (.p (.i 0))]) := by
    rw [hD, hB]
    exact (mwrite_ok aM1 aM1_in aM1_r).ent (.cons (ent_m PE.nil PE.nil PE.nil) .nil)
  have k2 : PCall Tryz.prog 26 [.a (.p (.i 1) :: .p (.i 1) :: .p (.i 1) :: .p (.i 3) :: .p (.i 4) :: (D.map bcD ++ [.p (.v (.slice none 0 0)), .p (.v (.slice none 0 0)), .p (.v (.slice none 0 0))]))] (.tup [.one (.p (.sl 1 (([] : List Nat).map bR) false)), .one (.p (.i 3))]) := by
    rw [hD]
    exact (mwrite_no aM2 aM2_in aM2_r).ent (.cons (ent_m PE.nil PE.nil PE.nil) .nil)
  have k3 : PCall Tryz.prog 27 [.p (.sl 1 (B.map bR) false)] (.tup [.agg (.p (.i 1) :: .p (.i 1) :: .p (.i 2) :: .p (.i 3) :: .p (.i 4) :: (D.map bcD ++ [.p (.sl 1 (([] : List Int).map iRw) false), .p (.sl 32 (([] : List (List Nat)).map dRw) false), .p (.sl 10 (([] : List Kd).map kR) false)])), .one (.p (.i 0))]) := by
    have h := mread_w B (by rw [hB]; exact msgB_ok aM1_in) (by rw [hB, aM1_l]; decide)
    rw [hB, mread_back aM1_in aM1_r] at h
    rw [hB, hD]
    exact h
  have k4 : PCall Tryz.prog 27 [.p (.v (.slice none 0 0))] (.tup [.agg (mL zeroM), .one (.p (.i 3))]) := by
    have h := mread_w [] (fun c hc => by cases hc) (by decide)
    rw [nil_no] at h
    exact h.ent (.cons Ent1.nil .nil)
  have e5 : Ent1 (.a (.p (.i 5) :: .p (.i 2) :: .p (.i 1) :: .p (.i 3) :: .p (.i 0) :: (zeroD.map bcD ++ [.p (.sl 1 [[.i 0]] true), .p (.sl 32 (G.map dRw) true), .p (.v (.slice none 0 0))]))) (mV aM5) := by
    rw [hG]
    exact ent_m PE.ex PE.ex PE.nil
  have k5 : PCall Tryz.prog 29 [.a (.p (.i 5) :: .p (.i 2) :: .p (.i 1) :: .p (.i 3) :: .p (.i 0) :: (zeroD.map bcD ++ [.p (.sl 1 [[.i 0]] true), .p (.sl 32 (G.map dRw) true), .p (.v (.slice none 0 0))]))] (.p (.b true)) := by
    have h := mright_w aM5 aM5_in
    rw [aM5_r] at h
    exact h.ent (.cons e5 .nil)
  have k6 : PCall Tryz.prog 33 [.a (.p (.i 5) :: .p (.i 2) :: .p (.i 1) :: .p (.i 3) :: .p (.i 0) :: (zeroD.map bcD ++ [.p (.sl 1 [[.i 0]] true), .p (.sl 32 (G.map dRw) true), .p (.v (.slice none 0 0))]))] (.p (.b false)) := (asks_w aM5).ent (.cons e5 .nil)
  have k7 : PCall Tryz.prog 33 [.a (.p (.i 1) :: .p (.i 1) :: .p (.i 2) :: .p (.i 3) :: .p (.i 4) :: (D.map bcD ++ [.p (.sl 1 (([] : List Int).map iRw) false), .p (.sl 32 (([] : List (List Nat)).map dRw) false), .p (.sl 10 (([] : List Kd).map kR) false)]))] (.p (.b true)) := by
    rw [hD]
    exact asks_w aM1
  have k8 : PCall Tryz.prog 31 [.a (.p (.i 5) :: .p (.i 2) :: .p (.i 1) :: .p (.i 3) :: .p (.i 0) :: (zeroD.map bcD ++ [.p (.sl 1 [[.i 0]] true), .p (.sl 32 (G.map dRw) true), .p (.v (.slice none 0 0))])), .a (.p (.i 5) :: .p (.i 2) :: .p (.i 1) :: .p (.i 3) :: .p (.i 0) :: (zeroD.map bcD ++ [.p (.sl 1 [[.i 0]] true), .p (.sl 32 (G.map dRw) true), .p (.v (.slice none 0 0))]))] (.p (.b true)) := by
    have h := psame_w aM5 aM5 aM5_in aM5_in
    rw [sameM_refl] at h
    exact h.ent (.cons e5 (.cons e5 .nil))
  haveI i1 : PC _ _ _ True _ := ⟨fun _ => k1⟩
  haveI i2 : PC _ _ _ True _ := ⟨fun _ => k2⟩
  haveI i3 : PC _ _ _ True _ := ⟨fun _ => k3⟩
  haveI i4 : PC _ _ _ True _ := ⟨fun _ => k4⟩
  haveI i5 : PC _ _ _ True _ := ⟨fun _ => k5⟩
  haveI i6 : PC _ _ _ True _ := ⟨fun _ => k6⟩
  haveI i7 : PC _ _ _ True _ := ⟨fun _ => k7⟩
  haveI i8 : PC _ _ _ True _ := ⟨fun _ => k8⟩
  clear k1 k2 k3 k4 k5 k6 k7 k8 e5
  have lB : B.length = 45 := by rw [hB]; exact aM1_l
  have dB : decide ((B.length : Int) = 45) = true := decide_eq_true (by omega)
  have dD : decide (D = aD) = true := decide_eq_true hD
  have n0 : (!false) = true := rfl
  clear hB
  repeat' (first | refine rnC ?_ | refine rnSM ?_ | refine rnG ?_ | refine rnU ?_ | ((fail_if_success (refine rnKn ?_)); refine rnP ?_ ?_ <;> (intro hq; try (have hq' := hq; simp only [hqs] at hq'))) | refine rkC ?_ | refine rkSM ?_ | refine rkF ?_ | refine rkU ?_ | ((fail_if_success (refine rkKn ?_)); refine rkP ?_ ?_ <;> (intro hq; try (have hq' := hq; simp only [hqs] at hq'))) | refine stp ?_ | refine ifT ?_ | refine ifF ?_ | (refine ifQ ?_ ?_ <;> (try (intro hn))) | (refine ifB ?_ ?_ <;> (intro hq; try (have hq' := hq; simp only [hqs] at hq'))))
  refine rn_any (gd_n rfl rfl) rfl (show LOp _ _ _ ⟨.a (.p (.i 1) :: .p (.i 1) :: .p (.i 2) :: .p (.i 3) :: .p (.i 4) :: (D.map bcD ++ [.p (.v (.slice none 0 0)), .p (.v (.slice none 0 0)), .p (.v (.slice none 0 0))])), []⟩ _ from by exact lop_build6 (s5 := .agg (D.map bcD)) rfl inferInstance inferInstance rfl rfl rfl rfl rfl (by rw [hD]; rfl) (by decide) (by rw [hD]; rfl) rfl) ?_
  repeat' (first | refine rnC ?_ | refine rnSM ?_ | refine rnG ?_ | refine rnU ?_ | ((fail_if_success (refine rnKn ?_)); refine rnP ?_ ?_ <;> (intro hq; try (have hq' := hq; simp only [hqs] at hq'))) | refine rkC ?_ | refine rkSM ?_ | refine rkF ?_ | refine rkU ?_ | ((fail_if_success (refine rkKn ?_)); refine rkP ?_ ?_ <;> (intro hq; try (have hq' := hq; simp only [hqs] at hq'))) | refine stp ?_ | refine ifT ?_ | refine ifF ?_ | (refine ifQ ?_ ?_ <;> (try (intro hn))) | (refine ifB ?_ ?_ <;> (intro hq; try (have hq' := hq; simp only [hqs] at hq'))))
  refine rn_any (gd_n rfl rfl) rfl (show LOp _ _ _ ⟨.p (.sl 32 (G.map dRw) true), []⟩ _ from by rw [hG]; exact lop_makeP (c := 4) (z := List.replicate 32 (.int .u8 0)) rfl inferInstance inferInstance inferInstance rfl rfl rfl (by decide) (by decide) (by decide) (by decide) rfl) ?_
  refine rn_any (gd_n rfl rfl) rfl (show LOp _ _ _ ⟨.a (.p (.i 5) :: .p (.i 2) :: .p (.i 1) :: .p (.i 3) :: .p (.i 0) :: (zeroD.map bcD ++ [.p (.sl 1 [[.i 0]] true), .p (.sl 32 (G.map dRw) true), .p (.v (.slice none 0 0))])), []⟩ _ from by exact lop_build6 rfl inferInstance inferInstance rfl rfl rfl rfl rfl rfl (by decide) rfl rfl) ?_
  repeat' (first | refine rnC ?_ | refine rnSM ?_ | refine rnG ?_ | refine rnU ?_ | ((fail_if_success (refine rnKn ?_)); refine rnP ?_ ?_ <;> (intro hq; try (have hq' := hq; simp only [hqs] at hq'))) | refine rkC ?_ | refine rkSM ?_ | refine rkF ?_ | refine rkU ?_ | ((fail_if_success (refine rkKn ?_)); refine rkP ?_ ?_ <;> (intro hq; try (have hq' := hq; simp only [hqs] at hq'))) | refine stp ?_ | refine ifT ?_ | refine ifF ?_ | (refine ifQ ?_ ?_ <;> (try (intro hn))) | (refine ifB ?_ ?_ <;> (intro hq; try (have hq' := hq; simp only [hqs] at hq'))))
  refine rn_any (by first | exact gd_n rfl rfl | exact gd_t rfl rfl rfl rfl | exact gd_t rfl rfl rfl (by assumption)) rfl (lop_eq_k (l := D) (m := aD) rfl inferInstance rfl rfl hD32 rfl ⟨_, _, _, inferInstance, rfl⟩ rfl) ?_
  as_aux_lemma =>
    repeat' (first | refine rnC ?_ | refine rnSM ?_ | refine rnG ?_ | refine rnU ?_ | ((fail_if_success (refine rnKn ?_)); refine rnP ?_ ?_ <;> (intro hq; try (have hq' := hq; simp only [hqs] at hq'))) | refine rkC ?_ | refine rkSM ?_ | refine rkF ?_ | refine rkU ?_ | ((fail_if_success (refine rkKn ?_)); refine rkP ?_ ?_ <;> (intro hq; try (have hq' := hq; simp only [hqs] at hq'))) | refine stp ?_ | refine ifT ?_ | refine ifF ?_ | (refine ifQ ?_ ?_ <;> (try (intro hn))) | (refine ifB ?_ ?_ <;> (intro hq; try (have hq' := hq; simp only [hqs] at hq'))))
    exact rt1 rfl rfl finS_p rfl
end Go.Proofs.YtclcfjejpogdlaaGreat.Wi
