/- routes: rings at rest; routes: Shared, Peers; routes: plain facts; routes: a ring that is nil; alive of 13; routes: Pick handed the nil slice; routes: alive of 13; routes: plain facts for the laws; routes: how the laws' arguments read -/
import Derived.Test.YthhlcdacmlnjdaaGreatQ7
import Derived.Test.YthhlcdacmlnjdaaGreatQ1
import Derived.Test.YthhlcdacmlnjdaaGreatKf
namespace Go.Proofs.YthhlcdacmlnjdaaGreat.Rg
open Go Go.RowKit Go.Aw Go.Aw.Cart Go.Aw.Ord Go.Sort Go.Proofs.YthhlcdacmlnjdaaGreat.Ca
set_option linter.unusedVariables false
set_option linter.unusedSimpArgs false
set_option maxRecDepth 8000
set_option maxHeartbeats 4000000
/-- some function's value -/
def ufn : PVal where
  holds _ v := ∃ (f : Fn) (a b : Array Value), v = .func f a b
  mono := fun _ h => h
  one := by rintro x v ⟨f, a, b, rfl⟩; rfl
theorem lop_mfu {C : Ctx} {o : Oper} {σ : St} {f : FuncId} {x : Operand} {ps : List PVal} {off : Nat} (ho : o.op = .makeFunc (.func f) #[x] #[]) (hx : σ.look x = .p (.bx ps off)) (hd : dOk C o.dst = true) : LOp C o σ ⟨.p ufn, []⟩ (fun _ => false) :=
  lop_val hd fun τ a w G hl hm h => ⟨.func (.func f) #[a.eval x] #[], by simp [execOp, ho, Instr.makeFunc], _, _, _, rfl⟩
theorem lop_nilCheck_bx {C : Ctx} {o : Oper} {σ : St} {x : Operand} {ps : List PVal} {off : Nat} (ho : o.op = .nilCheck x) (hx : σ.look x = .p (.bx ps off)) (hd : dOk C o.dst = true) : LOp C o σ ⟨.p (.bx ps off), []⟩ (fun _ => false) :=
  lop_val hd fun τ a w G hl hm h => by
    obtain ⟨b, cs, ty, h1, h2⟩ := look_of h ((hl x (by simp [ho, Op.operands])).trans hx)
    exact ⟨_, by simp only [execOp, ho, h1]; rfl, b, cs, ty, rfl, h2⟩
theorem lop_bx_eqnil {C : Ctx} {o : Oper} {σ : St} {t e t' : TypeId} {x y : Operand} {sz by_ : Nat} {ps : List PVal} {off : Nat} (ho : o.op = .binOp .eql t x y t') (hT : TI C.P t (.ptr e) sz by_) (hx : σ.look x = .p (.bx ps off)) (hy : σ.look y = .p (.v (.pointer none))) (hd : dOk C o.dst = true) :
    LOp C o σ ⟨.p (.v (.bool false)), []⟩ (fun _ => false) :=
  lop_val hd fun τ a w G hl hm h => by
    obtain ⟨b, cs, ty, h2, _⟩ := look_of h ((hl x (by simp [ho, Op.operands])).trans hx)
    have e2 := val_of h ((hl y (by simp [ho, Op.operands])).trans hy)
    obtain ⟨d, hdd, hk⟩ := hT.undd
    have : d = .pointer e := by cases d <;> simp [TK.of] at hk; rw [hk]
    subst this
    refine ⟨.bool false, ?_, rfl, rfl⟩
    have hr := run_eql_pointer_nil (P := C.P) w t (some ⟨b, off, none⟩) (by simp [Program.pointee, hdd])
    simp only [execOp, ho, h2, e2, Sem.run_bind]
    have hg : (eqGuard .eql t x y (.pointer (some ⟨b, off, none⟩)) (.pointer none)).run C.P w = .ok () w := by
      unfold eqGuard; simp [pure]
    rw [hg]; simp [hr]
namespace P13
theorem lopC {C : Ctx} {o : Oper} {σ : St} {e : Eff} {ro : Nat → Bool} (h : LOp C o σ e ro := by
    first
      | (apply lop_mfu; (focus rfl); (focus rfl); (focus rfl))
      | (apply lop_nilCheck_bx; (focus rfl); (focus rfl); (focus rfl))
      | (apply lop_bx_eqnil; (focus rfl); (focus exact inferInstance); (focus rfl); (focus rfl); (focus rfl))
      | exact PB.lopC
      | fail) : LOp C o σ e ro := h
section steps
variable {C : Ctx} {ops : Array Oper} {o : Oper} {rest : List Oper} {K : St → Prop} {σ : St} {e : Eff} {ro : Nat → Bool} {W : List (Nat × Nat)} {i : Nat}
theorem rnC {d : Nat} (hk : RunN C ops rest K (e.app (some d) σ)) (hg : Guard ops σ o true := by first | exact gd_n rfl rfl | exact gd_t rfl rfl rfl rfl | exact gd_t rfl rfl rfl (by assumption)) (hd : o.dst = some d := by rfl) (h : LOp C o σ e ro := by exact lopC) : RunN C ops (o :: rest) K σ := rn_any hg hd h hk
theorem rkC {d : Nat} (hk : RunK C ops W (i + 1) rest K (e.app (some d) σ)) (hg : Guard ops σ o true := by first | exact gd_n rfl rfl | exact gd_t rfl rfl rfl rfl | exact gd_t rfl rfl rfl (by assumption)) (hd' : o.dst = some d := by rfl) (hd : dOk C o.dst = true := by rfl) (h : LOp C o σ e ro := by exact lopC)
    (hro : ∀ x, ro x = true → okObj ops W i x = true := by first | exact fun _ => ro_none | exact ro_one rfl | exact ro_k1 rfl | exact ro_one (by kernel_rfl) | exact ro_k1 (by kernel_rfl) | exact ro_kIn (by decide)) (hob : ∀ p ∈ e.obj, (i, p.1) ∈ W := by first | exact ob_none | exact ob_one (by decide) | decide) : RunK C ops W i (o :: rest) K σ := rk_wr hg hd' hd h hro hob hk
end steps
end P13
open P13
theorem onceP_w (n v r : Nat) : PCall Tryz.prog 54 [.p (.bx (ringP true n v r) (0 + 3)), .p ufn] (.tup []) := by
  intro w S vs hS ha
  obtain ⟨v0, vs1, rfl, ⟨b, cs, ty, rfl, hSb, hb, hc⟩, ha1⟩ := ha.cons_inv
  obtain ⟨v1, vs2, rfl, ⟨f, x, y, rfl⟩, ha2⟩ := ha1.cons_inv
  obtain rfl := ha2.nil_inv
  obtain ⟨z, hz, hx, _⟩ := hc.get (show (ringP true n v r)[3]? = some (.k .u32 1) from rfl)
  have c0 : w.cell? ⟨b, 0 + 3, none⟩ = some (.int .u32 1) := by
    simp only [World.cell?, hb]
    simp [hz, hx]
  refine (On.do_done ⟨b, 0 + 3, none⟩ 1 (by decide) _ w c0).mono ?_
  rintro e w' ⟨rfl, rfl⟩
  exact ⟨.tuple #[], rfl, ⟨S, fun _ h => h, fun _ h => .inl h, ⟨[], rfl, .nil⟩⟩, Below.refl _ _, Nat.le_refl _⟩
instance onceP_i {n v r : Nat} : PC Tryz.prog 54 [.p (.bx (ringP true n v r) (0 + 3)), .p ufn] True (.tup []) := ⟨fun _ => onceP_w n v r⟩
theorem pointsP_w (n v r : Nat) : PCall Tryz.prog 44 [.p (.bx (ringP true n v r) 0)] (.p (.sl 2 ((pts n v).map pR) false)) := by
  refine pcall_of Tryz.func44 rfl (fun w0 F S0 M0 => ?_)
  as_aux_lemma =>
    repeat' (first
        | refine rnC ?_
        | refine rnSB ?_
        | refine rnG ?_
        | refine rnU ?_
        | ((fail_if_success (refine rnKn ?_)); refine rnP ?_ ?_ <;> (intro hq; try (have hq' := hq; simp only [hqs] at hq')))
        | refine rkC ?_
        | refine rkSB ?_
        | refine rkF ?_
        | refine rkU ?_
        | ((fail_if_success (refine rkKn ?_)); refine rkP ?_ ?_ <;> (intro hq; try (have hq' := hq; simp only [hqs] at hq')))
        | refine stp ?_
        | refine ifT ?_
        | refine ifF ?_
        | (refine ifQ ?_ ?_ <;> (try (intro hn)))
        | (refine ifB ?_ ?_ <;> (intro hq; try (have hq' := hq; simp only [hqs] at hq'))))
    exact rt1 rfl rfl finS_p rfl
instance pointsP_i {n v r : Nat} : PC Tryz.prog 44 [.p (.bx (ringP true n v r) 0)] True (.p (.sl 2 ((pts n v).map pR) false)) := ⟨fun _ => pointsP_w n v r⟩
theorem listOutP_w (n v r : Nat) (part : Int) (hp : ¬ (0 ≤ part ∧ part < 8)) : PCall Tryz.prog 27 [.p (.bx (ringP true n v r) 0), .p (.i part)] (.p (.sl 1 ((lstF n v r part).map iR) false)) := by
  refine pcall_of Tryz.func27 rfl (fun w0 F S0 M0 => ?_)
  haveI : PC Tryz.prog 43 [.p (.i part)] True (.tup [.one (.p (.k .u64 0)), .one (.p (.i 1))]) := ⟨fun _ => by have := base_w part; rwa [if_neg hp, if_neg hp] at this⟩
  unfold lstF
  rw [if_neg hp]
  as_aux_lemma =>
    repeat' (first
        | refine rnC ?_
        | refine rnSB ?_
        | refine rnG ?_
        | refine rnU ?_
        | ((fail_if_success (refine rnKn ?_)); refine rnP ?_ ?_ <;> (intro hq; try (have hq' := hq; simp only [hqs] at hq')))
        | refine rkC ?_
        | refine rkSB ?_
        | refine rkF ?_
        | refine rkU ?_
        | ((fail_if_success (refine rkKn ?_)); refine rkP ?_ ?_ <;> (intro hq; try (have hq' := hq; simp only [hqs] at hq')))
        | refine stp ?_
        | refine ifT ?_
        | refine ifF ?_
        | (refine ifQ ?_ ?_ <;> (try (intro hn)))
        | (refine ifB ?_ ?_ <;> (intro hq; try (have hq' := hq; simp only [hqs] at hq'))))
    exact rt1 rfl rfl (.one .nil) rfl
theorem listInP_w (n v r : Nat) (part : Int) (hn : n ≤ 8) (hv : v ≤ 16) (hr : r ≤ 8) (hp : 0 ≤ part ∧ part < 8) : PCall Tryz.prog 27 [.p (.bx (ringP true n v r) 0), .p (.i part)] (.p (.sl 1 ((lstF n v r part).map iR) false)) := by
  refine pcall_of Tryz.func27 rfl (fun w0 F S0 M0 => ?_)
  unfold lstF
  rw [if_pos hp]
  obtain ⟨B, hB⟩ : ∃ B, B = 2305843009213693952 * part := ⟨_, rfl⟩
  rw [← hB]
  haveI : PC Tryz.prog 43 [.p (.i part)] True (.tup [.one (.p (.k .u64 B)), .one (.p (.i 0))]) := ⟨fun _ => by have := base_w part; rwa [if_pos hp, if_pos hp, ← hB] at this⟩
  have hl : (pts n v).length ≤ 128 := by rw [pts_len]; exact Nat.mul_le_mul hn hv
  unfold listF
  obtain ⟨i0, hi0, hidx, hrot⟩ := rot_is (B := B) (show upI ltD (pts n v) from sortD_up _)
  rw [← hrot]
  haveI : PC Tryz.prog 44 [.p (.bx (ringP true n v r) 0)] True (.p (.sl 2 ((pts n v).map pR) false)) := ⟨fun _ => pointsP_w n v r⟩
  generalize pts n v = L at *
  obtain ⟨K, hK⟩ : ∃ K, K = idxP (geF B) L 0 L.length := ⟨_, rfl⟩
  rw [← hK] at hidx
  haveI : PC Tryz.prog 45 [.p (.sl 2 (L.map pR) false), .p (.fnv 46 [.bx [.k .u64 B] 0])] True (.p (.i K)) := ⟨fun _ => by rw [hK]; exact indexFuncP_w _ _ inferInstance (geF B) L false (by omega) fun e => geP_w e B⟩
  clear hK hrot
  have hmax : (if K < 0 then 0 else K) = (i0 : Int) := by
    rcases hidx with ⟨h1, h2⟩ | h1
    · rw [if_pos (by omega)]; omega
    · rw [if_neg (by omega)]; exact h1
  have hl1 : (L.drop (i0 : Int).toNat).length ≤ 1000000 := by rw [List.length_drop]; omega
  have hl2 : (L.take (i0 : Int).toNat).length ≤ 1000000 := by rw [List.length_take]; omega
  have hl3 : (L.drop (i0 : Int).toNat ++ L.take (i0 : Int).toNat).length ≤ 1000 := by rw [List.length_append, List.length_drop, List.length_take]; omega
  rw [show L.drop i0 ++ L.take i0 = L.drop (i0 : Int).toNat ++ L.take (i0 : Int).toNat by rw [Int.toNat_natCast]]
  repeat' (first
      | refine rnC ?_
      | refine rnSB ?_
      | refine rnG ?_
      | refine rnU ?_
      | ((fail_if_success (refine rnKn ?_)); refine rnP ?_ ?_ <;> (intro hq; try (have hq' := hq; simp only [hqs] at hq')))
      | refine rkC ?_
      | refine rkSB ?_
      | refine rkF ?_
      | refine rkU ?_
      | ((fail_if_success (refine rkKn ?_)); refine rkP ?_ ?_ <;> (intro hq; try (have hq' := hq; simp only [hqs] at hq')))
      | refine stp ?_
      | refine ifT ?_
      | refine ifF ?_
      | (refine ifQ ?_ ?_ <;> (try (intro hn)))
      | (refine ifB ?_ ?_ <;> (intro hq; try (have hq' := hq; simp only [hqs] at hq'))))
  refine aws_draws [(7, 32)] mixed (by kernel_rfl) ?_
  repeat' (first
      | refine rk_nil ?_
      | refine rkC ?_
      | refine rkSB ?_
      | refine rkF ?_
      | refine rkU ?_
      | ((fail_if_success (refine rkKn ?_)); refine rkP ?_ ?_ <;> (intro hq; try (have hq' := hq; simp only [hqs] at hq'))))
  repeat' (first
      | refine rnC ?_
      | refine rnSB ?_
      | refine rnG ?_
      | refine rnU ?_
      | ((fail_if_success (refine rnKn ?_)); refine rnP ?_ ?_ <;> (intro hq; try (have hq' := hq; simp only [hqs] at hq')))
      | refine rkC ?_
      | refine rkSB ?_
      | refine rkF ?_
      | refine rkU ?_
      | ((fail_if_success (refine rkKn ?_)); refine rkP ?_ ?_ <;> (intro hq; try (have hq' := hq; simp only [hqs] at hq')))
      | refine stp ?_
      | refine ifT ?_
      | refine ifF ?_
      | (refine ifQ ?_ ?_ <;> (try (intro hn)))
      | (refine ifB ?_ ?_ <;> (intro hq; try (have hq' := hq; simp only [hqs] at hq'))))
  generalize L.drop (i0 : Int).toNat ++ L.take (i0 : Int).toNat = M at *
  refine aws_says (says_frz (t := 32) (o := 32) rfl rfl rfl (by simp)) ?_
  refine aws_says (says_nil (t := 9) (o := 901) (ty := 3) (es := 1) rfl rfl (by decide)) ?_
  refine aws_loopS [9, 11, 34, 35, 36, 37, 38, 39, 40, 41, 42, 43, 44, 45, 46, 47, 48, 49, 50, 51, 52, 53, 54, 55, 56, 57, 58] [11, 901] (fun (x : Nat × Nat × List Int × Nat × Option MO) => [(34, .p (.i x.1)), (9, .o (.osl 901 x.2.1 1 0 x.2.2.1.length))]) (fun x => [(11, x.2.2.2), (901, (x.2.1 + 1, some (.buf 3 1 (x.2.2.1.map iR))))])
    (fun x => x.1 ≤ M.length ∧ x.2.2.1 = (dl ((M.take x.1).map (·.2))).take r) (fun x => M.length - x.1) (0, 0, [], 0, none) ⟨Nat.zero_le _, by dsimp only; rw [List.take_zero]; exact (List.take_nil (i := r)).symm⟩ (by exact knA) (by exact knA) ?_
  rintro ⟨i, g, m, c11, o11⟩ β γ ⟨hi, hm⟩
  simp only at hi hm
  have hml : m.length ≤ 8 := by rw [hm, List.length_take]; omega
  dsimp only
  by_cases hil : i < M.length
  · have d1 : decide ((i : Int) < (M.length : Int)) = true := decide_eq_true (by omega)
    have ei : (i : Int).toNat = i := Int.toNat_natCast i
    have hst := take_step (r := r) ((M.take i).map (·.2)) (M.getD i default).2
    rw [show (M.take i).map (·.2) ++ [(M.getD i default).2] = (M.take (i + 1)).map (·.2) by rw [take_get' hil, List.map_append]; rfl, ← hm] at hst
    by_cases hr1 : (m.length : Int) < (r : Int)
    · have d2 : decide ((m.length : Int) < (r : Int)) = true := decide_eq_true hr1
      by_cases hx : (M.getD (i : Int).toNat default).2 ∈ m
      · have d3 : (!decide ((M.getD (i : Int).toNat default).2 ∈ m)) = false := by rw [decide_eq_true hx]; rfl
        rw [ei] at hx
        rw [if_neg (fun q => q.2 hx)] at hst
        as_aux_lemma =>
          repeat' (first
              | refine rnC ?_
              | refine rnSB ?_
              | refine rnG ?_
              | refine rnU ?_
              | ((fail_if_success (refine rnKn ?_)); refine rnP ?_ ?_ <;> (intro hq; try (have hq' := hq; simp only [hqs] at hq')))
              | refine rkC ?_
              | refine rkSB ?_
              | refine rkF ?_
              | refine rkU ?_
              | ((fail_if_success (refine rkKn ?_)); refine rkP ?_ ?_ <;> (intro hq; try (have hq' := hq; simp only [hqs] at hq')))
              | refine stp ?_
              | refine ifT ?_
              | refine ifF ?_
              | (refine ifQ ?_ ?_ <;> (try (intro hn)))
              | (refine ifB ?_ ?_ <;> (intro hq; try (have hq' := hq; simp only [hqs] at hq'))))
          exact ⟨(i + 1, g, m, _, _), _, by dsimp only; omega, ⟨by dsimp only; omega, hst.symm⟩, .refl, by exact frA⟩
      · have d3 : (!decide ((M.getD (i : Int).toNat default).2 ∈ m)) = true := by rw [decide_eq_false hx]; rfl
        rw [ei] at hx
        rw [if_pos ⟨by omega, hx⟩] at hst
        as_aux_lemma =>
          repeat' (first
              | refine rnC ?_
              | refine rnSB ?_
              | refine rnG ?_
              | refine rnU ?_
              | ((fail_if_success (refine rnKn ?_)); refine rnP ?_ ?_ <;> (intro hq; try (have hq' := hq; simp only [hqs] at hq')))
              | refine rkC ?_
              | refine rkSB ?_
              | refine rkF ?_
              | refine rkU ?_
              | ((fail_if_success (refine rkKn ?_)); refine rkP ?_ ?_ <;> (intro hq; try (have hq' := hq; simp only [hqs] at hq')))
              | refine stp ?_
              | refine ifT ?_
              | refine ifF ?_
              | (refine ifQ ?_ ?_ <;> (try (intro hn)))
              | (refine ifB ?_ ?_ <;> (intro hq; try (have hq' := hq; simp only [hqs] at hq'))))
          refine ⟨(i + 1, g + 1, m ++ [(M.getD (i : Int).toNat default).2], _, _), _, by dsimp only; omega, ⟨by dsimp only; omega, ?_⟩, .refl, by exact frA⟩
          dsimp only
          rw [hst, ei]
    · have d2 : decide ((m.length : Int) < (r : Int)) = false := decide_eq_false hr1
      rw [if_neg (show ¬ (m.length < r ∧ (M.getD i default).2 ∉ m) from fun q => by omega)] at hst
      as_aux_lemma =>
        repeat' (first
            | refine rnC ?_
            | refine rnSB ?_
            | refine rnG ?_
            | refine rnU ?_
            | ((fail_if_success (refine rnKn ?_)); refine rnP ?_ ?_ <;> (intro hq; try (have hq' := hq; simp only [hqs] at hq')))
            | refine rkC ?_
            | refine rkSB ?_
            | refine rkF ?_
            | refine rkU ?_
            | ((fail_if_success (refine rkKn ?_)); refine rkP ?_ ?_ <;> (intro hq; try (have hq' := hq; simp only [hqs] at hq')))
            | refine stp ?_
            | refine ifT ?_
            | refine ifF ?_
            | (refine ifQ ?_ ?_ <;> (try (intro hn)))
            | (refine ifB ?_ ?_ <;> (intro hq; try (have hq' := hq; simp only [hqs] at hq'))))
        exact ⟨(i + 1, g, m, _, _), _, by dsimp only; omega, ⟨by dsimp only; omega, hst.symm⟩, .refl, by exact frA⟩
  · have d1 : decide ((i : Int) < (M.length : Int)) = false := decide_eq_false (by omega)
    rw [show M.take i = M from List.take_of_length_le (by omega)] at hm
    rw [← hm]
    as_aux_lemma =>
      repeat' (first
          | refine rnC ?_
          | refine rnSB ?_
          | refine rnG ?_
          | refine rnU ?_
          | ((fail_if_success (refine rnKn ?_)); refine rnP ?_ ?_ <;> (intro hq; try (have hq' := hq; simp only [hqs] at hq')))
          | refine rkC ?_
          | refine rkSB ?_
          | refine rkF ?_
          | refine rkU ?_
          | ((fail_if_success (refine rkKn ?_)); refine rkP ?_ ?_ <;> (intro hq; try (have hq' := hq; simp only [hqs] at hq')))
          | refine stp ?_
          | refine ifT ?_
          | refine ifF ?_
          | (refine ifQ ?_ ?_ <;> (try (intro hn)))
          | (refine ifB ?_ ?_ <;> (intro hq; try (have hq' := hq; simp only [hqs] at hq'))))
      exact rt1 rfl rfl (.one (finC_map rfl rfl rfl rfl)) rfl
theorem listP_w (n v r : Nat) (part : Int) (hn : n ≤ 8) (hv : v ≤ 16) (hr : r ≤ 8) : PCall Tryz.prog 27 [.p (.bx (ringP true n v r) 0), .p (.i part)] (.p (.sl 1 ((lstF n v r part).map iR) false)) := by
  by_cases hp : 0 ≤ part ∧ part < 8
  · exact listInP_w n v r part hn hv hr hp
  · exact listOutP_w n v r part hp
instance listP_i {n v r : Nat} {part : Int} : PC Tryz.prog 27 [.p (.bx (ringP true n v r) 0), .p (.i part)] (n ≤ 8 ∧ v ≤ 16 ∧ r ≤ 8) (.p (.sl 1 ((lstF n v r part).map iR) false)) := ⟨fun h => listP_w n v r part h.1 h.2.1 h.2.2⟩
theorem holdsP_w (n v r : Nat) (node part : Int) (hn : n ≤ 8) (hv : v ≤ 16) (hr : r ≤ 8) : PCall Tryz.prog 25 [.p (.bx (ringP true n v r) 0), .p (.i node), .p (.i part)] (.p (.b (decide (node ∈ lstF n v r part)))) := by
  refine pcall_of Tryz.func25 rfl (fun w0 F S0 M0 => ?_)
  have hl : (lstF n v r part).length ≤ 1000 := Nat.le_trans (lstF_len n v r part) (by omega)
  as_aux_lemma =>
    repeat' (first
        | refine rnC ?_
        | refine rnSB ?_
        | refine rnG ?_
        | refine rnU ?_
        | ((fail_if_success (refine rnKn ?_)); refine rnP ?_ ?_ <;> (intro hq; try (have hq' := hq; simp only [hqs] at hq')))
        | refine rkC ?_
        | refine rkSB ?_
        | refine rkF ?_
        | refine rkU ?_
        | ((fail_if_success (refine rkKn ?_)); refine rkP ?_ ?_ <;> (intro hq; try (have hq' := hq; simp only [hqs] at hq')))
        | refine stp ?_
        | refine ifT ?_
        | refine ifF ?_
        | (refine ifQ ?_ ?_ <;> (try (intro hn)))
        | (refine ifB ?_ ?_ <;> (intro hq; try (have hq' := hq; simp only [hqs] at hq'))))
    exact rt1 rfl rfl finS_p rfl
instance holdsP_i {n v r : Nat} {node part : Int} : PC Tryz.prog 25 [.p (.bx (ringP true n v r) 0), .p (.i node), .p (.i part)] (n ≤ 8 ∧ v ≤ 16 ∧ r ≤ 8) (.p (.b (decide (node ∈ lstF n v r part)))) := ⟨fun h => holdsP_w n v r node part h.1 h.2.1 h.2.2⟩
theorem shared1_w (n v r : Nat) (e b : Int) (hn : n ≤ 8) (hv : v ≤ 16) (hr : r ≤ 8) : PCall Tryz.prog 40 ([AV.p (PVal.i e)] ++ [PVal.bx [.bx (ringP true n v r) 0] 0, PVal.bx [.i b] 0].map .p) (.p (.b (!decide (b ∈ lstF n v r e)))) := by
  refine pcall_of Tryz.func40 rfl (fun w0 F S0 M0 => ?_)
  as_aux_lemma =>
    repeat' (first
        | refine rnC ?_
        | refine rnSB ?_
        | refine rnG ?_
        | refine rnU ?_
        | ((fail_if_success (refine rnKn ?_)); refine rnP ?_ ?_ <;> (intro hq; try (have hq' := hq; simp only [hqs] at hq')))
        | refine rkC ?_
        | refine rkSB ?_
        | refine rkF ?_
        | refine rkU ?_
        | ((fail_if_success (refine rkKn ?_)); refine rkP ?_ ?_ <;> (intro hq; try (have hq' := hq; simp only [hqs] at hq')))
        | refine stp ?_
        | refine ifT ?_
        | refine ifF ?_
        | (refine ifQ ?_ ?_ <;> (try (intro hn)))
        | (refine ifB ?_ ?_ <;> (intro hq; try (have hq' := hq; simp only [hqs] at hq'))))
    exact rt1 rfl rfl finS_p rfl
end Go.Proofs.YthhlcdacmlnjdaaGreat.Rg
namespace Go.Proofs.YthhlcdacmlnjdaaGreat.Rg
open Go Go.RowKit Go.Aw Go.Aw.Cart Go.Aw.Ord Go.Sort Go.Proofs.YthhlcdacmlnjdaaGreat.Ca
set_option linter.unusedVariables false
set_option linter.unusedSimpArgs false
set_option maxRecDepth 8000
set_option maxHeartbeats 4000000
theorem lop_field {C : Ctx} {o : Oper} {σ : St} {T : TypeId} {x : Operand} {f : Nat} {fs : List (Nat × TypeId)} {sz by_ off ft : Nat} {kf : TK} {szf bf : Nat} {cs : List AC} {c : AC} (ho : o.op = .field T x f) (hT : TI C.P T (.struct fs) sz by_) (hx : σ.look x = .a cs) (hfs : fs[f]? = some (off, ft)) (hf : TI C.P ft kf szf bf) (hk : kf.agg = false) (hc : cs[off]? = some c) (hd : dOk C o.dst = true) : LOp C o σ ⟨.s (.one c), []⟩ (fun _ => false) :=
  lop_val hd fun τ a w G hl hm h => by
    obtain ⟨arr, h1, h2⟩ := look_of h ((hl x (by simp [ho, Op.operands])).trans hx)
    obtain ⟨v, hv, hh⟩ := h2.get hc
    obtain ⟨d, hdd, hkk⟩ := hT.undd
    cases d with
    | struct fields =>
      simp [TK.of] at hkk
      subst hkk
      have hfl : ∃ fd, fields[f]? = some fd ∧ fd.offset = off ∧ fd.type = ft := by
        rw [List.getElem?_map] at hfs
        cases hq : fields.toList[f]? with
        | none => rw [hq] at hfs; cases hfs
        | some fd => rw [hq] at hfs; simp at hfs; exact ⟨fd, by simpa using hq, hfs.1, hfs.2⟩
      obtain ⟨fd, hq, rfl, rfl⟩ := hfl
      exact ⟨v, by simp [execOp, ho, h1, Instr.field, run_underlying hdd, hq, asAgg, part, hf.run_isAgg, hk, hv], hh⟩
    | _ => simp [TK.of] at hkk
namespace P14
theorem lopC {C : Ctx} {o : Oper} {σ : St} {e : Eff} {ro : Nat → Bool} (h : LOp C o σ e ro := by
    first
      | (apply lop_field; (focus rfl); (focus exact inferInstance); (focus rfl); (focus rfl); (focus exact inferInstance); (focus rfl); (focus rfl); (focus rfl))
      | exact PB.lopC
      | fail) : LOp C o σ e ro := h
section steps
variable {C : Ctx} {ops : Array Oper} {o : Oper} {rest : List Oper} {K : St → Prop} {σ : St} {e : Eff} {ro : Nat → Bool} {W : List (Nat × Nat)} {i : Nat}
theorem rnC {d : Nat} (hk : RunN C ops rest K (e.app (some d) σ)) (hg : Guard ops σ o true := by first | exact gd_n rfl rfl | exact gd_t rfl rfl rfl rfl | exact gd_t rfl rfl rfl (by assumption)) (hd : o.dst = some d := by rfl) (h : LOp C o σ e ro := by exact lopC) : RunN C ops (o :: rest) K σ := rn_any hg hd h hk
theorem rkC {d : Nat} (hk : RunK C ops W (i + 1) rest K (e.app (some d) σ)) (hg : Guard ops σ o true := by first | exact gd_n rfl rfl | exact gd_t rfl rfl rfl rfl | exact gd_t rfl rfl rfl (by assumption)) (hd' : o.dst = some d := by rfl) (hd : dOk C o.dst = true := by rfl) (h : LOp C o σ e ro := by exact lopC)
    (hro : ∀ x, ro x = true → okObj ops W i x = true := by first | exact fun _ => ro_none | exact ro_one rfl | exact ro_k1 rfl | exact ro_one (by kernel_rfl) | exact ro_k1 (by kernel_rfl) | exact ro_kIn (by decide)) (hob : ∀ p ∈ e.obj, (i, p.1) ∈ W := by first | exact ob_none | exact ob_one (by decide) | decide) : RunK C ops W i (o :: rest) K σ := rk_wr hg hd' hd h hro hob hk
end steps
end P14
section
open PB
theorem lop_mfo_r {C : Ctx} {o : Oper} {σ : St} {f : FuncId} {xo x1 : Operand} {oo g o1 g1 ty1 : Nat} {ps1 : List PVal} (ho : o.op = .makeFunc (.func f) #[] #[xo, x1]) (hxo : σ.look xo = .o (.ptr oo g 0)) (h1 : σ.look x1 = .o (.ptr o1 g1 0)) (hm1 : σ.mem o1 = (g1 + 1, some (.box ty1 (ps1.map .p)))) (hd : dOk C o.dst = true) :
    LOp C o σ ⟨.o (.fn f oo g [] [.bx ps1 0]), [(o1, (g1 + 1, some (.abs (fbx ps1))))]⟩ (fun x => [o1].any (· == x)) := by
  have := lop_mfo (C := C) (o := o) (σ := σ) (c1 := []) (c2 := [x1]) (l1 := []) (l2 := [⟨o1, g1, ty1, ps1⟩]) ho rfl hxo .nil (.cons h1 .nil) (by simpa using hm1) (by simp) hd
  simpa [Cap.upd] using this
theorem partsB_at0 {n v r : Nat} {d : Bool} {node : Int} (hn : n ≤ 8) (hv : v ≤ 16) (hr : r ≤ 8) (c g e : Nat) (hce : c ≠ e) : OCAt Tryz.prog 29 [.o (.ptr c g 0), .p (.i node)] [(c, (g + 1, some (ringB d n v r)))] [(e, 0)] (.o (.osl e (partsTo n v r node 8).length 1 0 (partsTo n v r node 8).length)) [(c, (g + 1, some (ringB true n v r))), (e, ((partsTo n v r node 8).length + 1, some (.buf 3 1 ((partsTo n v r node 8).map iR))))] := by
  have := partsB_at (d := d) (node := node) hn hv hr c g e 0 hce
  simpa only [Nat.zero_add] using this
theorem shared_o (q n v r : Nat) (a b : Int) (hn : n ≤ 8) (hv : v ≤ 16) (hr : r ≤ 8) : OCall Tryz.prog 19 [.o (.ptr 1000 q 0), .p (.i a), .p (.i b)] (memL [(1000, (q + 1, some (ringM n v r)))]) (.p (.sl 1 ((sharesTo n v r a b 8).map iR) false)) (memL [(1000, (q + 1, some (ringM n v r)))]) := by
  refine ocall_of1 Tryz.func19 rfl (fun w0 F S0 M0 => ?_)
  by_cases hab : a = b
  · have d1 : decide (a = b) = true := decide_eq_true hab
    rw [show sharesTo n v r a b 8 = [] by rw [hab]; exact sharesTo_eq n v r b 8]
    as_aux_lemma =>
      repeat' (first
          | refine rnC ?_
          | refine rnSB ?_
          | refine rnG ?_
          | refine rnU ?_
          | ((fail_if_success (refine rnKn ?_)); refine rnP ?_ ?_ <;> (intro hq; try (have hq' := hq; simp only [hqs] at hq')))
          | refine rkC ?_
          | refine rkSB ?_
          | refine rkF ?_
          | refine rkU ?_
          | ((fail_if_success (refine rkKn ?_)); refine rkP ?_ ?_ <;> (intro hq; try (have hq' := hq; simp only [hqs] at hq')))
          | refine stp ?_
          | refine ifT ?_
          | refine ifF ?_
          | (refine ifQ ?_ ?_ <;> (try (intro hn)))
          | (refine ifB ?_ ?_ <;> (intro hq; try (have hq' := hq; simp only [hqs] at hq'))))
      exact RetO.mk (ot1 rfl rfl (.one .nil) rfl) ⟨.abs, trivial⟩
  · have d1 : decide (a = b) = false := decide_eq_false hab
    rw [sharesTo_is n v r a b hab 8 (by omega)]
    have hpl := partsTo_len n v r a 8
    haveI : FPI Tryz.prog 40 [.bx [.bx (ringP true n v r) 0] 0, .bx [.i b] 0] True (fun e => !decide (b ∈ lstF n v r e)) := ⟨fun _ e => shared1_w n v r e b hn hv hr⟩
    refine aws_or (o := 1000) rfl fun d => ?_
    have hP := partsB_at0 (n := n) (v := v) (r := r) (d := d) (node := a) hn hv hr 1000 q 12 (by decide)
    generalize partsTo n v r a 8 = l at *
    have hD : OCAt Tryz.prog 38 [.o (.osl 12 l.length 1 0 l.length), .p (.fnv 40 (.bx [.bx (ringP true n v r) 0] 0 :: [.bx [.i b] 0]))] [(12, (l.length + 1, some (.buf 3 1 (l.map iR))))] [] (.o (.osl 12 l.length 1 0 (l.filter fun e => !(!decide (b ∈ lstF n v r e))).length)) [(12, (l.length + 1, some (.buf 3 1 ((l.filter fun e => !(!decide (b ∈ lstF n v r e))).map iR))))] := deleteFI_i.call ⟨rfl, trivial, by omega⟩
    generalize (l.filter fun e => !(!decide (b ∈ lstF n v r e))) = m at *
    have hr' : ∀ (μ : Mu) (X Y : Wd) (v : Value), X.w = Y.w → (AV.o (.osl 12 l.length 1 0 m.length)).holds μ X v → (AV.o (.osl 12 l.length 1 0 m.length)).holds μ Y v := fun μ X Y v _ h => h
    have hE := ocat_lend (g3 := 0) (gR := q) (ty3 := 26) (tyR := 71) (show (12 : Nat) ≠ 3 by decide) (show (12 : Nat) ≠ 1000 by decide) (show (3 : Nat) ≠ 1000 by decide) hr' (MV.buf (l := m) (f := fun n : Int => [Value.int .i64 n])) hD
    repeat' (first
        | refine rnC ?_
        | refine rnSB ?_
        | refine rnG ?_
        | refine rnU ?_
        | ((fail_if_success (refine rnKn ?_)); refine rnP ?_ ?_ <;> (intro hq; try (have hq' := hq; simp only [hqs] at hq')))
        | refine rkC ?_
        | refine rkSB ?_
        | refine rkF ?_
        | refine rkU ?_
        | ((fail_if_success (refine rkKn ?_)); refine rkP ?_ ?_ <;> (intro hq; try (have hq' := hq; simp only [hqs] at hq')))
        | refine stp ?_
        | refine ifT ?_
        | refine ifF ?_
        | (refine ifQ ?_ ?_ <;> (try (intro hn)))
        | (refine ifB ?_ ?_ <;> (intro hq; try (have hq' := hq; simp only [hqs] at hq'))))
    refine rn_any (gd_n rfl rfl) rfl (lop_ocall rfl inferInstance (.cons rfl (.cons rfl .nil)) hP (fun p hp => by rcases hp with _ | ⟨_, ⟨⟩⟩; rfl) (fun p hp => by rcases hp with _ | ⟨_, ⟨⟩⟩; rfl) (fun p hp => by rcases hp with _ | ⟨_, ⟨⟩⟩; rfl) (fun p hp => by rcases hp with _ | ⟨_, ⟨⟩⟩; rfl) rfl) ?_
    refine rn_any (gd_n rfl rfl) rfl (lop_mfo_r (ps1 := [.i b]) rfl rfl rfl rfl rfl) ?_
    refine rn_any (gd_n rfl rfl) rfl (lop_ocall rfl inferInstance (.cons rfl (.cons rfl .nil)) hE (fun p hp => by rcases hp with _ | ⟨_, _ | ⟨_, _ | ⟨_, ⟨⟩⟩⟩⟩ <;> rfl) (fun p hp => by cases hp) (fun p hp => by rcases hp with _ | ⟨_, _ | ⟨_, _ | ⟨_, ⟨⟩⟩⟩⟩ <;> rfl) (fun p hp => by cases hp) rfl) ?_
    repeat' (first
        | refine rnC ?_
        | refine rnSB ?_
        | refine rnG ?_
        | refine rnU ?_
        | ((fail_if_success (refine rnKn ?_)); refine rnP ?_ ?_ <;> (intro hq; try (have hq' := hq; simp only [hqs] at hq')))
        | refine rkC ?_
        | refine rkSB ?_
        | refine rkF ?_
        | refine rkU ?_
        | ((fail_if_success (refine rkKn ?_)); refine rkP ?_ ?_ <;> (intro hq; try (have hq' := hq; simp only [hqs] at hq')))
        | refine stpR ?_
        | refine ifT ?_
        | refine ifF ?_
        | (refine ifQ ?_ ?_ <;> (try (intro hn)))
        | (refine ifB ?_ ?_ <;> (intro hq; try (have hq' := hq; simp only [hqs] at hq'))))
    refine aws_says (says_or (o := 1000) (ty := 71) (fun d => ringP d n v r) true rfl) ?_
    as_aux_lemma =>
      repeat' (first
          | refine rnC ?_
          | refine rnSB ?_
          | refine rnG ?_
          | refine rnU ?_
          | ((fail_if_success (refine rnKn ?_)); refine rnP ?_ ?_ <;> (intro hq; try (have hq' := hq; simp only [hqs] at hq')))
          | refine rkC ?_
          | refine rkSB ?_
          | refine rkF ?_
          | refine rkU ?_
          | ((fail_if_success (refine rkKn ?_)); refine rkP ?_ ?_ <;> (intro hq; try (have hq' := hq; simp only [hqs] at hq')))
          | refine stp ?_
          | refine ifT ?_
          | refine ifF ?_
          | (refine ifQ ?_ ?_ <;> (try (intro hn)))
          | (refine ifB ?_ ?_ <;> (intro hq; try (have hq' := hq; simp only [hqs] at hq'))))
      exact RetO.mk (ot1 rfl rfl (.one (finC_map rfl rfl rfl rfl)) rfl) ⟨.abs, trivial⟩
instance shared_i {c g m n v r : Nat} {a b : Int} : OC Tryz.prog 19 [.o (.ptr c g 0), .p (.i a), .p (.i b)] [(c, (m, some (ringM n v r)))] [] (m = g + 1 ∧ n ≤ 8 ∧ v ≤ 16 ∧ r ≤ 8) (.p (.sl 1 ((sharesTo n v r a b 8).map iR) false)) [(c, (m, some (ringM n v r)))] := ⟨fun h => by obtain ⟨rfl, h1, h2, h3⟩ := h; exact (shared_o g n v r a b h1 h2 h3).one c⟩
end
section
open P14
theorem peers_o (q n v r : Nat) (node : Int) (hn : n ≤ 8) (hv : v ≤ 16) (hr : r ≤ 8) : OCall Tryz.prog 21 [.o (.ptr 1000 q 0), .p (.i node)] (memL [(1000, (q + 1, some (ringM n v r)))]) (.p (.sl 1 ((peersTo n v r node n).map iR) false)) (memL [(1000, (q + 1, some (ringM n v r)))]) := by
  refine ocall_of1 Tryz.func21 rfl (fun w0 F S0 M0 => ?_)
  repeat' (first
      | refine rnC ?_
      | refine rnSB ?_
      | refine rnG ?_
      | refine rnU ?_
      | ((fail_if_success (refine rnKn ?_)); refine rnP ?_ ?_ <;> (intro hq; try (have hq' := hq; simp only [hqs] at hq')))
      | refine rkC ?_
      | refine rkSB ?_
      | refine rkF ?_
      | refine rkU ?_
      | ((fail_if_success (refine rkKn ?_)); refine rkP ?_ ?_ <;> (intro hq; try (have hq' := hq; simp only [hqs] at hq')))
      | refine stp ?_
      | refine ifT ?_
      | refine ifF ?_
      | (refine ifQ ?_ ?_ <;> (try (intro hn)))
      | (refine ifB ?_ ?_ <;> (intro hq; try (have hq' := hq; simp only [hqs] at hq'))))
  refine aws_says (says_nil (t := 5) (o := 901) (ty := 3) (es := 1) rfl rfl (by decide)) ?_
  refine aws_loopS [5, 6, 7, 8, 9, 10, 11, 12, 13, 14, 15, 16, 17, 18, 19, 20, 21, 22, 23] [1000, 901] (fun (x : Nat × Nat × List Int) => [(6, .p (.i (x.1 + 1))), (5, .o (.osl 901 x.2.1 1 0 x.2.2.length))]) (fun x => [(1000, (q + 1, some (ringM n v r))), (901, (x.2.1 + 1, some (.buf 3 1 (x.2.2.map iR))))])
    (fun x => x.1 ≤ n ∧ x.2.2 = peersTo n v r node x.1) (fun x => n - x.1) (0, 0, []) ⟨Nat.zero_le _, rfl⟩ (by exact knA) (by exact knA) ?_
  rintro ⟨i, g, m⟩ β γ ⟨hi, hm⟩
  simp only at hi hm
  dsimp only
  have hml : m.length ≤ 8 := by rw [hm]; exact Nat.le_trans (peersTo_len _ _ _ _ _) (by omega)
  by_cases hil : i < n
  · have d1 : decide ((i : Int) + 1 ≤ (n : Int)) = true := decide_eq_true (by omega)
    have hst := show peersTo n v r node (i + 1) = if 0 < (sharesTo n v r node ((i : Int) + 1) 8).length then peersTo n v r node i ++ [(i : Int) + 1] else peersTo n v r node i from rfl
    have hll := sharesTo_len n v r node ((i : Int) + 1) 8
    rw [← hm] at hst
    obtain ⟨l, hl⟩ : ∃ l, l = sharesTo n v r node ((i : Int) + 1) 8 := ⟨_, rfl⟩
    haveI : ∀ c g m : Nat, OC Tryz.prog 19 [.o (.ptr c g 0), .p (.i node), .p (.i ((i : Int) + 1))] [(c, (m, some (ringM n v r)))] [] (m = g + 1) (.p (.sl 1 (l.map iR) false)) [(c, (m, some (ringM n v r)))] := fun c g m => ⟨fun h => by rw [hl]; exact shared_i.call ⟨h, hn, hv, hr⟩⟩
    rw [← hl] at hst hll
    clear hl
    by_cases h0 : 0 < l.length
    · have d2 : decide (0 < (l.length : Int)) = true := decide_eq_true (by omega)
      rw [if_pos h0] at hst
      as_aux_lemma =>
        repeat' (first
            | refine rnC ?_
            | refine rnSB ?_
            | refine rnG ?_
            | refine rnU ?_
            | ((fail_if_success (refine rnKn ?_)); refine rnP ?_ ?_ <;> (intro hq; try (have hq' := hq; simp only [hqs] at hq')))
            | refine rkC ?_
            | refine rkSB ?_
            | refine rkF ?_
            | refine rkU ?_
            | ((fail_if_success (refine rkKn ?_)); refine rkP ?_ ?_ <;> (intro hq; try (have hq' := hq; simp only [hqs] at hq')))
            | refine stp ?_
            | refine ifT ?_
            | refine ifF ?_
            | (refine ifQ ?_ ?_ <;> (try (intro hn)))
            | (refine ifB ?_ ?_ <;> (intro hq; try (have hq' := hq; simp only [hqs] at hq'))))
        exact ⟨(i + 1, g + 1, m ++ [(i : Int) + 1]), _, by dsimp only; omega, ⟨by dsimp only; omega, hst.symm⟩, .refl, by exact frA⟩
    · have d2 : decide (0 < (l.length : Int)) = false := decide_eq_false (by omega)
      rw [if_neg h0] at hst
      as_aux_lemma =>
        repeat' (first
            | refine rnC ?_
            | refine rnSB ?_
            | refine rnG ?_
            | refine rnU ?_
            | ((fail_if_success (refine rnKn ?_)); refine rnP ?_ ?_ <;> (intro hq; try (have hq' := hq; simp only [hqs] at hq')))
            | refine rkC ?_
            | refine rkSB ?_
            | refine rkF ?_
            | refine rkU ?_
            | ((fail_if_success (refine rkKn ?_)); refine rkP ?_ ?_ <;> (intro hq; try (have hq' := hq; simp only [hqs] at hq')))
            | refine stp ?_
            | refine ifT ?_
            | refine ifF ?_
            | (refine ifQ ?_ ?_ <;> (try (intro hn)))
            | (refine ifB ?_ ?_ <;> (intro hq; try (have hq' := hq; simp only [hqs] at hq'))))
        exact ⟨(i + 1, g, m), _, by dsimp only; omega, ⟨by dsimp only; omega, hst.symm⟩, .refl, by exact frA⟩
  · have d1 : decide ((i : Int) + 1 ≤ (n : Int)) = false := decide_eq_false (by omega)
    obtain rfl : i = n := by omega
    rw [← hm]
    as_aux_lemma =>
      repeat' (first
          | refine rnC ?_
          | refine rnSB ?_
          | refine rnG ?_
          | refine rnU ?_
          | ((fail_if_success (refine rnKn ?_)); refine rnP ?_ ?_ <;> (intro hq; try (have hq' := hq; simp only [hqs] at hq')))
          | refine rkC ?_
          | refine rkSB ?_
          | refine rkF ?_
          | refine rkU ?_
          | ((fail_if_success (refine rkKn ?_)); refine rkP ?_ ?_ <;> (intro hq; try (have hq' := hq; simp only [hqs] at hq')))
          | refine stp ?_
          | refine ifT ?_
          | refine ifF ?_
          | (refine ifQ ?_ ?_ <;> (try (intro hn)))
          | (refine ifB ?_ ?_ <;> (intro hq; try (have hq' := hq; simp only [hqs] at hq'))))
      exact RetO.mk (ot1 rfl rfl (.one (finC_map rfl rfl rfl rfl)) rfl) ⟨.abs, trivial⟩
instance peers_i {c g m n v r : Nat} {node : Int} : OC Tryz.prog 21 [.o (.ptr c g 0), .p (.i node)] [(c, (m, some (ringM n v r)))] [] (m = g + 1 ∧ n ≤ 8 ∧ v ≤ 16 ∧ r ≤ 8) (.p (.sl 1 ((peersTo n v r node n).map iR) false)) [(c, (m, some (ringM n v r)))] := ⟨fun h => by obtain ⟨rfl, h1, h2, h3⟩ := h; exact (peers_o g n v r node h1 h2 h3).one c⟩
end
end Go.Proofs.YthhlcdacmlnjdaaGreat.Rg
namespace Go.Proofs.YthhlcdacmlnjdaaGreat.Rg
open Go Go.RowKit Go.Aw Go.Aw.Cart Go.Aw.Ord Go.Sort Go.Proofs.YthhlcdacmlnjdaaGreat.Ca
set_option linter.unusedVariables false
set_option linter.unusedSimpArgs false
set_option maxRecDepth 8000
set_option maxHeartbeats 4000000
theorem rowP_in (node : Nat) : ∀ {j : Nat}, 1 ≤ j → ∃ p ∈ rowP node j, p.2 = node
  | j + 1, _ => ⟨_, List.mem_append_right _ List.mem_cons_self, rfl⟩
theorem rawP_in {v : Nat} (hv : 1 ≤ v) : ∀ {k : Nat} {x : Int}, 1 ≤ x → x ≤ k → ∃ p ∈ rawP v k, p.2 = x
  | 0, x, h1, h2 => by omega
  | k + 1, x, h1, h2 => by
    by_cases hx : x = ((k + 1 : Nat) : Int)
    · obtain ⟨p, hp, e⟩ := rowP_in (k + 1) hv
      exact ⟨p, List.mem_append_right _ hp, by rw [e, hx]⟩
    · obtain ⟨p, hp, e⟩ := rawP_in hv (k := k) h1 (by omega)
      exact ⟨p, List.mem_append_left _ hp, e⟩
theorem pts_nodes {n v : Nat} (hv : 1 ≤ v) (x : Int) : (∃ p ∈ pts n v, p.2 = x) ↔ 1 ≤ x ∧ x ≤ n := by
  constructor
  · rintro ⟨p, hp, rfl⟩
    exact rawP_2 v n p ((sortD_perm _).mem_iff.1 hp)
  · rintro ⟨h1, h2⟩
    obtain ⟨p, hp, e⟩ := rawP_in hv h1 h2
    exact ⟨p, (sortD_perm _).mem_iff.2 hp, e⟩
theorem right_is {n v r : Nat} (h : rRight n v r = true) : 1 ≤ n ∧ n ≤ 8 ∧ 1 ≤ v ∧ v ≤ 16 ∧ 1 ≤ r ∧ r ≤ n := by
  unfold rRight at h
  have := of_decide_eq_true h
  omega
theorem lst_len {n v r : Nat} {part : Int} (h : rRight n v r = true) (hp : 0 ≤ part ∧ part < 8) : (lstF n v r part).length = r := by
  obtain ⟨_, _, h3, _, _, h6⟩ := right_is h
  unfold lstF
  rw [if_pos hp]
  exact list_len (n := n) (fun x => pts_nodes h3 x) h6
theorem lst_nodup (n v r : Nat) (part : Int) : (lstF n v r part).Nodup := by
  unfold lstF
  split
  · exact list_nodup _ _ _
  · exact List.nodup_nil
theorem lst_mem {n v r : Nat} {part x : Int} (hv : 1 ≤ v) (h : x ∈ lstF n v r part) : 1 ≤ x ∧ x ≤ n := by
  unfold lstF at h
  split at h
  · obtain ⟨p, hp, e⟩ := list_sub h
    exact (pts_nodes hv x).1 ⟨p, hp, e⟩
  · cases h
theorem lst_out {n v r : Nat} {part : Int} (h : ¬ (0 ≤ part ∧ part < 8)) : lstF n v r part = [] := by unfold lstF; rw [if_neg h]
theorem three {part : Int} (hp : 0 ≤ part ∧ part < 8) : ∃ a b c : Int, lstF 3 2 3 part = [a, b, c] ∧ (1 ≤ a ∧ a ≤ 3) ∧ (1 ≤ b ∧ b ≤ 3) ∧ (1 ≤ c ∧ c ≤ 3) ∧ a ≠ b ∧ a ≠ c ∧ b ≠ c := by
  have hl := lst_len (n := 3) (v := 2) (r := 3) (part := part) rfl hp
  have hn := lst_nodup 3 2 3 part
  have hm := fun y (hy : y ∈ lstF 3 2 3 part) => lst_mem (n := 3) (v := 2) (r := 3) (by decide) hy
  revert hl hn hm
  generalize lstF 3 2 3 part = l
  intro hl hn hm
  match l, hl with
  | [a, b, c], _ =>
    have ha := hm a (by simp)
    have hb := hm b (by simp)
    have hc := hm c (by simp)
    simp at hn
    exact ⟨a, b, c, rfl, by omega, by omega, by omega, by omega, by omega, by omega⟩
theorem all3 {part x : Int} (hp : 0 ≤ part ∧ part < 8) (hx : 1 ≤ x ∧ x ≤ 3) : x ∈ lstF 3 2 3 part := by
  obtain ⟨a, b, c, e, h⟩ := three hp
  rw [e]
  simp
  omega
theorem oth3 {part : Int} (hp : 0 ≤ part ∧ part < 8) : ((lstF 3 2 3 part).filter fun e => !decide (e = 1)).length = 2 := by
  obtain ⟨a, b, c, e, h1, h2, h3, h4, h5, h6⟩ := three hp
  rw [e]
  by_cases ha : a = 1
  · have hb : b ≠ 1 := by omega
    have hc : c ≠ 1 := by omega
    simp [List.filter_cons, ha, hb, hc]
  · by_cases hb : b = 1
    · have hc : c ≠ 1 := by omega
      simp [List.filter_cons, ha, hb, hc]
    · have hc : c = 1 := by omega
      simp [List.filter_cons, ha, hb, hc]
theorem sh3 {b : Int} (hb : 2 ≤ b ∧ b ≤ 3) : ∀ k : Nat, k ≤ 8 → (sharesTo 3 2 3 1 b k).length = k
  | 0, _ => rfl
  | k + 1, h => by
    have := sh3 hb k (by omega)
    rw [sharesTo, if_pos ⟨by omega, all3 ⟨by omega, by omega⟩ (by decide), all3 ⟨by omega, by omega⟩ ⟨by omega, by omega⟩⟩, List.length_append, this]; rfl
theorem peers3 : (peersTo 3 2 3 1 3).length = 2 := by
  have e1 : (sharesTo 3 2 3 1 ((0 : Nat) + 1) 8).length = 0 := by
    rw [show ((0 : Nat) : Int) + 1 = 1 from rfl, sharesTo_eq]; rfl
  have e2 := sh3 (b := ((1 : Nat) : Int) + 1) (by decide) 8 (by decide)
  have e3 := sh3 (b := ((2 : Nat) : Int) + 1) (by decide) 8 (by decide)
  rw [peersTo, if_pos (by rw [e3]; decide), peersTo, if_pos (by rw [e2]; decide), peersTo, if_neg (by rw [e1]; decide), peersTo]
  rfl
/-- what is picked of the list -/
theorem pk_one {l : List Int} {x : Int} (h : x ∈ l) : pkF l [x] = (x, 0) := by
  unfold pkF
  rcases DJ.idxPI_found (p := fun e => decide (e ∈ [x])) (l := l) l.length 0 (by omega) with ⟨-, hno⟩ | ⟨i0, hi, -, hil, hp, -⟩
  · obtain ⟨j, hj, e⟩ := getD_mem h
    have := hno j (Nat.zero_le _) hj
    rw [e] at this
    simp at this
  · have e : pkI l [x] = i0 := hi
    rw [e, if_neg (by omega), Int.toNat_natCast]
    simp at hp
    rw [List.getD_eq_getElem?_getD, List.getElem?_eq_getElem hil] at *
    simp at *
    exact hp
theorem pk_none (l : List Int) : pkF l [] = (0, 15) := by
  unfold pkF
  rcases DJ.idxPI_found (p := fun e => decide (e ∈ ([] : List Int))) (l := l) l.length 0 (by omega) with ⟨hi, -⟩ | ⟨i0, hi, -, hil, hp, -⟩
  · have e : pkI l [] = -1 := hi
    rw [e, if_pos (by decide)]
  · simp at hp
/-- the two ways to pick, where the ring is right -/
theorem pick_same {n v r : Nat} {k : List Nat} {U : List Int} (h : rRight n v r = true) : pickF n v r k U = pickR n v r k U := by
  unfold pickF pickR
  by_cases hk : keyR k = true
  · have hp := part_lt k
    have hl := lst_len (part := partF k) h ⟨by omega, by omega⟩
    have := right_is h
    rw [if_pos hk, if_pos hk, if_neg (by unfold rtL; rw [if_pos hk, hl]; omega)]
  · rw [if_neg hk, if_neg hk]
end Go.Proofs.YthhlcdacmlnjdaaGreat.Rg
namespace Go.Proofs.YthhlcdacmlnjdaaGreat.Rg
open Go Go.RowKit Go.Aw Go.Aw.Cart Go.Aw.Ord Go.Sort Go.Proofs.YthhlcdacmlnjdaaGreat.Ca
set_option linter.unusedVariables false
set_option linter.unusedSimpArgs false
set_option maxRecDepth 8000
set_option maxHeartbeats 4000000
open P14
theorem rListNil_w (k : List Nat) (hk : okB k) (hl : k.length ≤ 1000000) : PCall Tryz.prog 13 [.p (.v (.pointer none)), strV k] (.p (.sl 1 (([] : List Int).map iR) false)) := by
  refine pcall_of Tryz.func13 rfl (fun w0 F S0 M0 => ?_)
  cases hq : keyR k with
  | false =>
    haveI : PC Tryz.prog 24 [strV k] True (.p (.b false)) := ⟨fun _ => by have := keyRight_w k hk hl; rwa [hq] at this⟩
    as_aux_lemma =>
      repeat' (first
          | refine rnC ?_
          | refine rnSB ?_
          | refine rnG ?_
          | refine rnU ?_
          | ((fail_if_success (refine rnKn ?_)); refine rnP ?_ ?_ <;> (intro hq; try (have hq' := hq; simp only [hqs] at hq')))
          | refine rkC ?_
          | refine rkSB ?_
          | refine rkF ?_
          | refine rkU ?_
          | ((fail_if_success (refine rkKn ?_)); refine rkP ?_ ?_ <;> (intro hq; try (have hq' := hq; simp only [hqs] at hq')))
          | refine stp ?_
          | refine aws_draws [] mixed (by kernel_rfl) ?_
          | refine ifT ?_
          | refine ifF ?_
          | (refine ifQ ?_ ?_ <;> (try (intro hn)))
          | (refine ifB ?_ ?_ <;> (intro hq; try (have hq' := hq; simp only [hqs] at hq'))))
      exact rt1 rfl rfl (.one .nil) rfl
  | true =>
    haveI : PC Tryz.prog 24 [strV k] True (.p (.b true)) := ⟨fun _ => by have := keyRight_w k hk hl; rwa [hq] at this⟩
    haveI : PC Tryz.prog 28 [strV k] True (.p (.i (partF k : Int))) := ⟨fun _ => keyPart_w k hk hl⟩
    have hp := part_lt k
    obtain ⟨E, hE⟩ : ∃ E : List Int, E = [] := ⟨[], rfl⟩
    haveI : PC Tryz.prog 27 [.p (.v (.pointer none)), .p (.i (partF k : Int))] True (.p (.sl 1 (E.map iR) false)) := ⟨fun _ => by rw [hE]; exact listNil_w _ ⟨by omega, by omega⟩⟩
    rw [← hE]
    clear hE
    as_aux_lemma =>
      repeat' (first
          | refine rnC ?_
          | refine rnSB ?_
          | refine rnG ?_
          | refine rnU ?_
          | ((fail_if_success (refine rnKn ?_)); refine rnP ?_ ?_ <;> (intro hq; try (have hq' := hq; simp only [hqs] at hq')))
          | refine rkC ?_
          | refine rkSB ?_
          | refine rkF ?_
          | refine rkU ?_
          | ((fail_if_success (refine rkKn ?_)); refine rkP ?_ ?_ <;> (intro hq; try (have hq' := hq; simp only [hqs] at hq')))
          | refine stp ?_
          | refine aws_draws [] mixed (by kernel_rfl) ?_
          | refine ifT ?_
          | refine ifF ?_
          | (refine ifQ ?_ ?_ <;> (try (intro hn)))
          | (refine ifB ?_ ?_ <;> (intro hq; try (have hq' := hq; simp only [hqs] at hq'))))
      exact rt1 rfl rfl finS_p rfl
theorem rPickNil_w (k : List Nat) (U : List Int) (ex : Bool) (hk : okB k) (hl : k.length ≤ 1000000) (hU : U.length ≤ 1000) (hq : keyR k = true) : PCall Tryz.prog 10 [.p (.v (.pointer none)), strV k, .p (.sl 1 (U.map iR) ex)] (.tup [.one (.p (.i 0)), .one (.p (.i 6))]) := by
  refine pcall_of Tryz.func10 rfl (fun w0 F S0 M0 => ?_)
  haveI : PC Tryz.prog 24 [strV k] True (.p (.b true)) := ⟨fun _ => by have := keyRight_w k hk hl; rwa [hq] at this⟩
  obtain ⟨E, hE⟩ : ∃ E : List Int, E = [] := ⟨[], rfl⟩
  have hE0 : E.length = 0 := by rw [hE]; rfl
  haveI : PC Tryz.prog 13 [.p (.v (.pointer none)), strV k] True (.p (.sl 1 (E.map iR) false)) := ⟨fun _ => by rw [hE]; exact rListNil_w k hk hl⟩
  haveI : PC Tryz.prog 32 [.p (.sl 1 (E.map iR) false), .p (.fnv 33 [.bx [.sl 1 (U.map iR) ex] 0])] True (.p (.i (-1))) := ⟨fun _ => by rw [hE]; exact indexFuncI_w _ _ inferInstance (fun e => decide (e ∈ U)) [] false (by decide) fun e => pick1_w e U ex hU⟩
  have d0 : decide ((E.length : Int) = 0) = true := decide_eq_true (by omega)
  clear hE
  as_aux_lemma =>
    repeat' (first
        | refine rnC ?_
        | refine rnSB ?_
        | refine rnG ?_
        | refine rnU ?_
        | ((fail_if_success (refine rnKn ?_)); refine rnP ?_ ?_ <;> (intro hq; try (have hq' := hq; simp only [hqs] at hq')))
        | refine rkC ?_
        | refine rkSB ?_
        | refine rkF ?_
        | refine rkU ?_
        | ((fail_if_success (refine rkKn ?_)); refine rkP ?_ ?_ <;> (intro hq; try (have hq' := hq; simp only [hqs] at hq')))
        | refine stp ?_
        | refine aws_draws [] mixed (by kernel_rfl) ?_
        | refine ifT ?_
        | refine ifF ?_
        | (refine ifQ ?_ ?_ <;> (try (intro hn)))
        | (refine ifB ?_ ?_ <;> (intro hq; try (have hq' := hq; simp only [hqs] at hq'))))
    exact rt2 rfl rfl finS_p rfl finS_p rfl
end Go.Proofs.YthhlcdacmlnjdaaGreat.Rg
namespace Go.Proofs.YthhlcdacmlnjdaaGreat.Rg
open Go Go.RowKit Go.Aw Go.Aw.Cart Go.Aw.Ord Go.Sort Go.Proofs.YthhlcdacmlnjdaaGreat.Ca
set_option linter.unusedVariables false
set_option linter.unusedSimpArgs false
set_option maxRecDepth 8000
set_option maxHeartbeats 4000000
open PB
theorem rPickN_o (q n v r : Nat) (k : List Nat) (hn : n ≤ 8) (hv : v ≤ 16) (hr : r ≤ 8) (hk : okB k) (hl : k.length ≤ 1000000) : OCall Tryz.prog 10 [.o (.ptr 1000 q 0), strV k, .p (.v (.slice none 0 0))] (memL [(1000, (q + 1, some (ringM n v r)))]) (.tup [.one (.p (.i (pickF n v r k []).1)), .one (.p (.i (pickF n v r k []).2))]) (memL [(1000, (q + 1, some (ringM n v r)))]) := by
  refine ocall_of1 Tryz.func10 rfl (fun w0 F S0 M0 => ?_)
  refine aws_says (says_nils (t := 2) (es := 1) rfl) ?_
  unfold pickF
  have hlen := rtL_len n v r k
  obtain ⟨l, hl'⟩ : ∃ l, l = rtL n v r k := ⟨_, rfl⟩
  haveI : ∀ c g m : Nat, OC Tryz.prog 13 [.o (.ptr c g 0), strV k] [(c, (m, some (ringM n v r)))] [] (m = g + 1) (.p (.sl 1 (l.map iR) false)) [(c, (m, some (ringM n v r)))] := fun c g m => ⟨fun h => by rw [hl']; exact rList_i.call ⟨h, hn, hv, hr, hk, hl⟩⟩
  rw [← hl'] at hlen ⊢
  clear hl'
  obtain ⟨A, hA⟩ : ∃ A, A = pkI l [] := ⟨_, rfl⟩
  haveI : PC Tryz.prog 32 [.p (.sl 1 (l.map iR) false), .p (.fnv 33 [.bx [.sl 1 [] true] 0])] True (.p (.i A)) := ⟨fun _ => by rw [hA]; exact indexFuncI_w _ _ inferInstance (fun e => decide (e ∈ ([] : List Int))) l false (by omega) fun e => pick1_w e [] true (by decide)⟩
  have hP : pkF l [] = if A < 0 then (0, 15) else (l.getD A.toNat default, 0) := by rw [hA]; rfl
  have hAl : A < 0 ∨ (0 ≤ A ∧ A < l.length) := by
    rcases DJ.idxPI_found (p := fun e => decide (e ∈ ([] : List Int))) (l := l) l.length 0 (by omega) with ⟨hi, -⟩ | ⟨i0, hi, -, hil, -, -⟩
    · left; rw [hA]; unfold pkI; rw [hi]; decide
    · right; rw [hA]; unfold pkI; rw [hi]; omega
  rw [hP]
  clear hA hP
  cases hq : keyR k with
  | false =>
    haveI : PC Tryz.prog 24 [strV k] True (.p (.b false)) := ⟨fun _ => by have := keyRight_w k hk hl; rwa [hq] at this⟩
    rw [if_neg (show ¬ false = true by simp)]
    as_aux_lemma =>
      repeat' (first
          | refine rnC ?_
          | refine rnSB ?_
          | refine rnG ?_
          | refine rnU ?_
          | ((fail_if_success (refine rnKn ?_)); refine rnP ?_ ?_ <;> (intro hq; try (have hq' := hq; simp only [hqs] at hq')))
          | refine rkC ?_
          | refine rkSB ?_
          | refine rkF ?_
          | refine rkU ?_
          | ((fail_if_success (refine rkKn ?_)); refine rkP ?_ ?_ <;> (intro hq; try (have hq' := hq; simp only [hqs] at hq')))
          | refine stp ?_
          | refine aws_draws [] mixed (by kernel_rfl) ?_
          | refine ifT ?_
          | refine ifF ?_
          | (refine ifQ ?_ ?_ <;> (try (intro hn)))
          | (refine ifB ?_ ?_ <;> (intro hq; try (have hq' := hq; simp only [hqs] at hq'))))
      exact RetO.mk (ot2 rfl rfl finS_p rfl finS_p rfl) ⟨.abs, trivial⟩
  | true =>
    haveI : PC Tryz.prog 24 [strV k] True (.p (.b true)) := ⟨fun _ => by have := keyRight_w k hk hl; rwa [hq] at this⟩
    rw [if_pos (show true = true from rfl)]
    by_cases h0 : l.length = 0
    · have d0 : decide ((l.length : Int) = 0) = true := decide_eq_true (by omega)
      rw [if_pos h0]
      as_aux_lemma =>
        repeat' (first
            | refine rnC ?_
            | refine rnSB ?_
            | refine rnG ?_
            | refine rnU ?_
            | ((fail_if_success (refine rnKn ?_)); refine rnP ?_ ?_ <;> (intro hq; try (have hq' := hq; simp only [hqs] at hq')))
            | refine rkC ?_
            | refine rkSB ?_
            | refine rkF ?_
            | refine rkU ?_
            | ((fail_if_success (refine rkKn ?_)); refine rkP ?_ ?_ <;> (intro hq; try (have hq' := hq; simp only [hqs] at hq')))
            | refine stp ?_
            | refine aws_draws [] mixed (by kernel_rfl) ?_
            | refine ifT ?_
            | refine ifF ?_
            | (refine ifQ ?_ ?_ <;> (try (intro hn)))
            | (refine ifB ?_ ?_ <;> (intro hq; try (have hq' := hq; simp only [hqs] at hq'))))
        exact RetO.mk (ot2 rfl rfl finS_p rfl finS_p rfl) ⟨.abs, trivial⟩
    · have d0 : decide ((l.length : Int) = 0) = false := decide_eq_false (by omega)
      rw [if_neg h0]
      by_cases hA0 : A < 0
      · have d1 : decide (A < 0) = true := decide_eq_true hA0
        rw [if_pos hA0]
        as_aux_lemma =>
          repeat' (first
              | refine rnC ?_
              | refine rnSB ?_
              | refine rnG ?_
              | refine rnU ?_
              | ((fail_if_success (refine rnKn ?_)); refine rnP ?_ ?_ <;> (intro hq; try (have hq' := hq; simp only [hqs] at hq')))
              | refine rkC ?_
              | refine rkSB ?_
              | refine rkF ?_
              | refine rkU ?_
              | ((fail_if_success (refine rkKn ?_)); refine rkP ?_ ?_ <;> (intro hq; try (have hq' := hq; simp only [hqs] at hq')))
              | refine stp ?_
              | refine aws_draws [] mixed (by kernel_rfl) ?_
              | refine ifT ?_
              | refine ifF ?_
              | (refine ifQ ?_ ?_ <;> (try (intro hn)))
              | (refine ifB ?_ ?_ <;> (intro hq; try (have hq' := hq; simp only [hqs] at hq'))))
          exact RetO.mk (ot2 rfl rfl finS_p rfl finS_p rfl) ⟨.abs, trivial⟩
      · have d1 : decide (A < 0) = false := decide_eq_false hA0
        rw [if_neg hA0]
        have hA1 : 0 ≤ A := by omega
        have hA2 : A < l.length := by omega
        clear hAl
        as_aux_lemma =>
          repeat' (first
              | refine rnC ?_
              | refine rnSB ?_
              | refine rnG ?_
              | refine rnU ?_
              | ((fail_if_success (refine rnKn ?_)); refine rnP ?_ ?_ <;> (intro hq; try (have hq' := hq; simp only [hqs] at hq')))
              | refine rkC ?_
              | refine rkSB ?_
              | refine rkF ?_
              | refine rkU ?_
              | ((fail_if_success (refine rkKn ?_)); refine rkP ?_ ?_ <;> (intro hq; try (have hq' := hq; simp only [hqs] at hq')))
              | refine stp ?_
              | refine aws_draws [] mixed (by kernel_rfl) ?_
              | refine ifT ?_
              | refine ifF ?_
              | (refine ifQ ?_ ?_ <;> (try (intro hn)))
              | (refine ifB ?_ ?_ <;> (intro hq; try (have hq' := hq; simp only [hqs] at hq'))))
          exact RetO.mk (ot2 rfl rfl finS_p rfl finS_p rfl) ⟨.abs, trivial⟩
end Go.Proofs.YthhlcdacmlnjdaaGreat.Rg
namespace Go.Proofs.YthhlcdacmlnjdaaGreat.Rg
open Go Go.RowKit Go.Aw Go.Aw.Cart Go.Aw.Ord Go.Sort Go.Proofs.YthhlcdacmlnjdaaGreat.Ca
set_option linter.unusedVariables false
set_option linter.unusedSimpArgs false
set_option maxRecDepth 8000
set_option maxHeartbeats 4000000
open P14
theorem ok_a : okB [97] := by intro c hc; simp at hc; omega
theorem ok_A : okB [65] := by intro c hc; simp at hc; omega
theorem ok_z : okB [] := by intro c hc; simp at hc
theorem kr_a : keyR [97] = true := by decide
theorem kr_A : keyR [65] = false := by decide
theorem kr_z : keyR [] = false := by decide
theorem alive13_w : PCall Tryz.prog 6 [] (.p (.b true)) := by
  refine pcall_of Tryz.func6 rfl (fun w0 F S0 M0 => ?_)
  haveI : ∀ c k : Nat, OC Tryz.prog 7 [.a [.p (.i 3), .p (.i 2), .p (.i 3)]] [] [(c, k)] True (.tup [.one (.ptr c k 0), .one (.p (.i 0))]) [(c, (k + 1, some (ringM 3 2 3)))] := fun c k => ⟨fun _ => newM_i.call rfl⟩
  have hp : 0 ≤ (partF [97] : Int) ∧ (partF [97] : Int) < 8 := by have := part_lt [97]; omega
  have hR : rtL 3 2 3 [97] = lstF 3 2 3 (partF [97]) := by unfold rtL; rw [if_pos kr_a]
  have hl3 : (lstF 3 2 3 (partF [97])).length = 3 := lst_len rfl hp
  have ho2 := oth3 hp
  have h3 : (3 : Int) ∈ lstF 3 2 3 (partF [97]) := all3 hp (by decide)
  have h2 : (2 : Int) ∈ lstF 3 2 3 (partF [97]) := all3 hp (by decide)
  have p1 : pickF 3 2 3 [97] [2] = (2, 0) := by rw [pick_same rfl]; unfold pickR; rw [if_pos kr_a, hR]; exact pk_one h2
  have p2 : pickF 3 2 3 [97] [] = (0, 15) := by rw [pick_same rfl]; unfold pickR; rw [if_pos kr_a]; exact pk_none _
  have p3 : pickF 3 2 3 [] [2] = (0, 1) := by unfold pickF; rw [if_neg (by rw [kr_z]; simp)]
  have hn : (3 : Int) ∉ rtL 3 2 3 [65] := by unfold rtL; rw [if_neg (by rw [kr_A]; simp)]; simp
  obtain ⟨l, hL⟩ : ∃ l, l = lstF 3 2 3 (partF [97]) := ⟨_, rfl⟩
  rw [← hL] at hR hl3 ho2 h3
  obtain ⟨O, hO⟩ : ∃ O, O = l.filter fun e => !decide (e = 1) := ⟨_, rfl⟩
  rw [← hO] at ho2
  obtain ⟨S, hS⟩ : ∃ S, S = sharesTo 3 2 3 1 2 8 := ⟨_, rfl⟩
  have hS8 : S.length = 8 := by rw [hS]; exact sh3 (by decide) 8 (by decide)
  obtain ⟨Q, hQ⟩ : ∃ Q, Q = peersTo 3 2 3 1 3 := ⟨_, rfl⟩
  have hQ2 : Q.length = 2 := by rw [hQ]; exact peers3
  haveI : ∀ c g m : Nat, OC Tryz.prog 13 [.o (.ptr c g 0), .p (.v (.string { data := #[97] }))] [(c, (m, some (ringM 3 2 3)))] [] (m = g + 1) (.p (.sl 1 (l.map iR) false)) [(c, (m, some (ringM 3 2 3)))] := fun c g m => ⟨fun h => by
    obtain rfl := h
    have := (rList_o g 3 2 3 [97] (by decide) (by decide) (by decide) ok_a (by decide)).one c; rw [hR] at this; exact this⟩
  haveI : ∀ c g m : Nat, OC Tryz.prog 10 [.o (.ptr c g 0), .p (.v (.string { data := #[97] })), .p (.sl 1 (([2] : List Int).map fun n => [PVal.v (.int .i64 n)]) true)] [(c, (m, some (ringM 3 2 3)))] [] (m = g + 1) (.tup [.one (.p (.i 2)), .one (.p (.i 0))]) [(c, (m, some (ringM 3 2 3)))] := fun c g m => ⟨fun h => by
    obtain rfl := h
    have := (rPick_o g 3 2 3 [97] [2] true (by decide) (by decide) (by decide) ok_a (by decide) (by decide)).one c; rw [p1] at this; exact this⟩
  haveI : ∀ c g m : Nat, OC Tryz.prog 10 [.o (.ptr c g 0), .p (.v (.string { data := #[97] })), .p (.v (.slice none 0 0))] [(c, (m, some (ringM 3 2 3)))] [] (m = g + 1) (.tup [.one (.p (.i 0)), .one (.p (.i 15))]) [(c, (m, some (ringM 3 2 3)))] := fun c g m => ⟨fun h => by
    obtain rfl := h
    have := (rPickN_o g 3 2 3 [97] (by decide) (by decide) (by decide) ok_a (by decide)).one c; rw [p2] at this; exact this⟩
  haveI : ∀ c g m : Nat, OC Tryz.prog 10 [.o (.ptr c g 0), .p (.v (.string { data := #[] })), .p (.sl 1 (([2] : List Int).map fun n => [PVal.v (.int .i64 n)]) true)] [(c, (m, some (ringM 3 2 3)))] [] (m = g + 1) (.tup [.one (.p (.i 0)), .one (.p (.i 1))]) [(c, (m, some (ringM 3 2 3)))] := fun c g m => ⟨fun h => by
    obtain rfl := h
    have := (rPick_o g 3 2 3 [] [2] true (by decide) (by decide) (by decide) ok_z (by decide) (by decide)).one c; rw [p3] at this; exact this⟩
  haveI : PC Tryz.prog 10 [.p (.v (.pointer none)), .p (.v (.string { data := #[97] })), .p (.sl 1 (([2] : List Int).map fun n => [PVal.v (.int .i64 n)]) true)] True (.tup [.one (.p (.i 0)), .one (.p (.i 6))]) := ⟨fun _ => rPickNil_w [97] [2] true ok_a (by decide) (by decide) kr_a⟩
  haveI : ∀ c g m : Nat, OC Tryz.prog 15 [.o (.ptr c g 0), .p (.i 3), .p (.v (.string { data := #[97] }))] [(c, (m, some (ringM 3 2 3)))] [] (m = g + 1) (.p (.b true)) [(c, (m, some (ringM 3 2 3)))] := fun c g m => ⟨fun h => by
    obtain rfl := h
    have := (rHolds_o g 3 2 3 3 [97] (by decide) (by decide) (by decide) ok_a (by decide)).one c; rw [hR, decide_eq_true h3] at this; exact this⟩
  haveI : ∀ c g m : Nat, OC Tryz.prog 15 [.o (.ptr c g 0), .p (.i 3), .p (.v (.string { data := #[65] }))] [(c, (m, some (ringM 3 2 3)))] [] (m = g + 1) (.p (.b false)) [(c, (m, some (ringM 3 2 3)))] := fun c g m => ⟨fun h => by
    obtain rfl := h
    have := (rHolds_o g 3 2 3 3 [65] (by decide) (by decide) (by decide) ok_A (by decide)).one c; rw [decide_eq_false hn] at this; exact this⟩
  haveI : ∀ c g m : Nat, OC Tryz.prog 17 [.o (.ptr c g 0), .p (.v (.string { data := #[97] })), .p (.i 1)] [(c, (m, some (ringM 3 2 3)))] [] (m = g + 1) (.p (.sl 1 (O.map iR) false)) [(c, (m, some (ringM 3 2 3)))] := fun c g m => ⟨fun h => by
    obtain rfl := h
    have := (others_o g 3 2 3 [97] 1 (by decide) (by decide) (by decide) ok_a (by decide)).one c; rw [hR, ← hO] at this; exact this⟩
  haveI : ∀ c g m : Nat, OC Tryz.prog 19 [.o (.ptr c g 0), .p (.i 1), .p (.i 2)] [(c, (m, some (ringM 3 2 3)))] [] (m = g + 1) (.p (.sl 1 (S.map iR) false)) [(c, (m, some (ringM 3 2 3)))] := fun c g m => ⟨fun h => by
    obtain rfl := h
    rw [hS]; exact shared_i.call ⟨rfl, by decide, by decide, by decide⟩⟩
  haveI : ∀ c g m : Nat, OC Tryz.prog 21 [.o (.ptr c g 0), .p (.i 1)] [(c, (m, some (ringM 3 2 3)))] [] (m = g + 1) (.p (.sl 1 (Q.map iR) false)) [(c, (m, some (ringM 3 2 3)))] := fun c g m => ⟨fun h => by
    obtain rfl := h
    rw [hQ]; exact peers_i.call ⟨rfl, by decide, by decide, by decide⟩⟩
  have d1 : decide ((l.length : Int) = 3) = true := decide_eq_true (by omega)
  have d2 : decide ((O.length : Int) = 2) = true := decide_eq_true (by omega)
  have d3 : decide ((S.length : Int) = 8) = true := decide_eq_true (by omega)
  have d4 : decide ((Q.length : Int) = 2) = true := decide_eq_true (by omega)
  clear hL hO hS hQ p1 p2 p3 hn hR
  as_aux_lemma =>
    repeat' (first
        | refine rnC ?_
        | refine rnSB ?_
        | refine rnG ?_
        | refine rnU ?_
        | ((fail_if_success (refine rnKn ?_)); refine rnP ?_ ?_ <;> (intro hq; try (have hq' := hq; simp only [hqs] at hq')))
        | refine rkC ?_
        | refine rkSB ?_
        | refine rkF ?_
        | refine rkU ?_
        | ((fail_if_success (refine rkKn ?_)); refine rkP ?_ ?_ <;> (intro hq; try (have hq' := hq; simp only [hqs] at hq')))
        | refine stp ?_
        | refine ifT ?_
        | refine ifF ?_
        | (refine ifQ ?_ ?_ <;> (try (intro hn)))
        | (refine ifB ?_ ?_ <;> (intro hq; try (have hq' := hq; simp only [hqs] at hq'))))
    exact rt1 rfl rfl finS_p (rb d4.symm)
instance alive13_i : PC Tryz.prog 6 [] True (.p (.b true)) := ⟨fun _ => alive13_w⟩
end Go.Proofs.YthhlcdacmlnjdaaGreat.Rg
namespace Go.Proofs.YthhlcdacmlnjdaaGreat.Rg
open Go Go.RowKit Go.Aw Go.Aw.Cart Go.Aw.Ord Go.Sort Go.Proofs.YthhlcdacmlnjdaaGreat.Ca
set_option linter.unusedVariables false
set_option linter.unusedSimpArgs false
set_option maxRecDepth 8000
set_option maxHeartbeats 4000000
theorem shares_sym (n v r : Nat) (a b : Int) : ∀ k, sharesTo n v r a b k = sharesTo n v r b a k
  | 0 => rfl
  | k + 1 => by
    rw [sharesTo, sharesTo, shares_sym n v r a b k]
    by_cases h : a ≠ b ∧ a ∈ lstF n v r k ∧ b ∈ lstF n v r k
    · rw [if_pos h, if_pos ⟨h.1.symm, h.2.2, h.2.1⟩]
    · rw [if_neg h, if_neg (fun q => h ⟨q.1.symm, q.2.2, q.2.1⟩)]
theorem shares_mem {n v r : Nat} {a b : Int} : ∀ {k : Nat} {x : Int}, x ∈ sharesTo n v r a b k → a ∈ lstF n v r x ∧ b ∈ lstF n v r x
  | 0, x, h => by cases h
  | k + 1, x, h => by
    rw [sharesTo] at h
    split at h
    · rename_i hc
      rcases List.mem_append.1 h with h | h
      · exact shares_mem h
      · rw [List.mem_singleton] at h; rw [h]; exact hc.2
    · exact shares_mem h
theorem peers_mem {n v r : Nat} {node x : Int} : ∀ {k : Nat}, x ∈ peersTo n v r node k ↔ (1 ≤ x ∧ x ≤ k) ∧ 0 < (sharesTo n v r node x 8).length
  | 0 => by
    rw [peersTo]
    exact ⟨fun h => (by cases h), fun h => (by have := h.1; omega)⟩
  | k + 1 => by
    rw [peersTo]
    have ih := @peers_mem n v r node x k
    by_cases hx : x = (k : Int) + 1
    · subst hx
      by_cases hc : 0 < (sharesTo n v r node ((k : Int) + 1) 8).length
      · rw [if_pos hc]
        exact ⟨fun _ => ⟨by omega, hc⟩, fun _ => List.mem_append_right _ List.mem_cons_self⟩
      · rw [if_neg hc, ih]
        exact ⟨fun h => (by have := h.1; omega), fun h => absurd h.2 hc⟩
    · by_cases hc : 0 < (sharesTo n v r node ((k : Int) + 1) 8).length
      · rw [if_pos hc, List.mem_append, List.mem_singleton, ih]
        exact ⟨fun h => h.elim (fun h => ⟨by have := h.1; omega, h.2⟩) (fun h => absurd h hx), fun h => .inl ⟨by have := h.1; omega, h.2⟩⟩
      · rw [if_neg hc, ih]
        exact ⟨fun h => ⟨by have := h.1; omega, h.2⟩, fun h => ⟨by have := h.1; omega, h.2⟩⟩
theorem peers_half {n v r : Nat} {a b : Int} (hv : 1 ≤ v) (h : b ∈ peersTo n v r a n) : a ∈ peersTo n v r b n := by
  obtain ⟨h1, h2⟩ := peers_mem.1 h
  obtain ⟨x, hx⟩ := List.exists_mem_of_length_pos h2
  have ha := lst_mem hv (shares_mem hx).1
  exact peers_mem.2 ⟨ha, by rw [shares_sym]; exact h2⟩
theorem peers_sym {n v r : Nat} {a b : Int} (hv : 1 ≤ v) : decide (b ∈ peersTo n v r a n) = decide (a ∈ peersTo n v r b n) :=
  decide_eq_decide.2 ⟨peers_half hv, peers_half hv⟩
theorem parts_in {n v r : Nat} {node : Int} {p : Nat} (h : node ∈ lstF n v r p) : ∀ {k : Nat}, p < k → (p : Int) ∈ partsTo n v r node k
  | k + 1, hk => by
    rw [partsTo]
    by_cases hp : p = k
    · subst hp
      rw [if_pos h]
      exact List.mem_append_right _ List.mem_cons_self
    · have := parts_in h (k := k) (by omega)
      split
      · exact List.mem_append_left _ this
      · exact this
/-- nobody of the list ahead of who is picked is up -/
theorem pk_ahead {l U : List Int} {i : Nat} (hi : i < l.length) (h : ∀ j, j ≤ i → l.getD j default ≠ (pkF l U).1) : l.getD i default ∉ U := by
  rcases DJ.idxPI_found (p := fun e => decide (e ∈ U)) (l := l) l.length 0 (by omega) with ⟨hx, hno⟩ | ⟨i0, hx, -, hil, hp, hno⟩
  · exact of_decide_eq_false (hno i (Nat.zero_le _) hi)
  · have e : pkI l U = i0 := hx
    have e1 : (pkF l U).1 = l.getD i0 default := by unfold pkF; rw [e, if_neg (by omega), Int.toNat_natCast]
    rw [e1] at h
    by_cases hlt : i < i0
    · exact of_decide_eq_false (hno i (Nat.zero_le _) hlt)
    · exact absurd rfl (h i0 (by omega))
theorem pk_ok {l U : List Int} (h : (pkF l U).2 = 0) : (pkF l U).1 ∈ l ∧ (pkF l U).1 ∈ U := by
  rcases DJ.idxPI_found (p := fun e => decide (e ∈ U)) (l := l) l.length 0 (by omega) with ⟨hx, hno⟩ | ⟨i0, hx, -, hil, hp, hno⟩
  · have e : pkI l U = -1 := hx
    unfold pkF at h
    rw [e, if_pos (by decide)] at h
    exact absurd h (by decide)
  · have e : pkI l U = i0 := hx
    have e1 : (pkF l U).1 = l.getD i0 default := by unfold pkF; rw [e, if_neg (by omega), Int.toNat_natCast]
    rw [e1]
    exact ⟨by rw [getD_at hil]; exact List.getElem_mem _, of_decide_eq_true hp⟩
theorem pr_ahead {n v r : Nat} {k : List Nat} {U : List Int} {i : Nat} (hi : i < (rtL n v r k).length) (h : ∀ j, j ≤ i → (rtL n v r k).getD j default ≠ (pickR n v r k U).1) : (rtL n v r k).getD i default ∉ U := by
  by_cases hk : keyR k = true
  · unfold pickR at h
    rw [if_pos hk] at h
    exact pk_ahead hi h
  · unfold rtL at hi
    rw [if_neg hk] at hi
    exact absurd hi (Nat.not_lt_zero _)
theorem pr_ok {n v r : Nat} {k : List Nat} {U : List Int} (h : (pickR n v r k U).2 = 0) : (pickR n v r k U).1 ∈ rtL n v r k ∧ (pickR n v r k U).1 ∈ U := by
  unfold pickR at h ⊢
  by_cases hk : keyR k = true
  · rw [if_pos hk] at h ⊢
    exact pk_ok h
  · rw [if_neg hk] at h
    exact absurd h (by decide)
theorem rtL_pos {n v r : Nat} {k : List Nat} (h : rRight n v r = true) : decide (0 < ((rtL n v r k).length : Int)) = keyR k := by
  unfold rtL
  cases hk : keyR k with
  | true =>
    have hp := part_lt k
    have := right_is h
    rw [if_pos rfl, lst_len h (by omega)]
    exact decide_eq_true (by omega)
  | false => rw [if_neg (by simp)]; rfl
theorem rtL_nodup (n v r : Nat) (k : List Nat) : (rtL n v r k).Nodup := by
  unfold rtL
  split
  · exact lst_nodup _ _ _ _
  · exact List.nodup_nil
theorem oth_len {x : Int} : ∀ {l : List Int}, l.Nodup → ((l.filter fun e => !decide (e = x)).length : Int) = l.length - (if decide (x ∈ l) = true then 1 else 0)
  | [], _ => rfl
  | y :: l, h => by
    have ih := @oth_len x l (List.nodup_cons.1 h).2
    have hy := (List.nodup_cons.1 h).1
    by_cases e : y = x
    · subst e
      rw [List.filter_cons_of_neg (by simp), if_pos (by simp), List.length_cons]
      rw [if_neg (by simp [hy])] at ih
      omega
    · rw [List.filter_cons_of_pos (by simp [e]), List.length_cons, List.length_cons]
      have e' : ¬ x = y := fun q => e q.symm
      by_cases hm : x ∈ l
      · rw [if_pos (by simp [hm])] at ih ⊢
        omega
      · rw [if_neg (by simp [hm])] at ih
        rw [if_neg (by simp [hm, e'])]
        omega
end Go.Proofs.YthhlcdacmlnjdaaGreat.Rg
namespace Go.Proofs.YthhlcdacmlnjdaaGreat.Rg
open Go Go.RowKit Go.Aw Go.Aw.Cart Go.Proofs.YthhlcdacmlnjdaaGreat.Ca
set_option linter.unusedVariables false
set_option linter.unusedSimpArgs false
theorem ri64_of {n : Int} (h : IntKind.i64.min ≤ n ∧ n ≤ IntKind.i64.max) : -9223372036854775808 ≤ n ∧ n ≤ 9223372036854775807 := by
  simp only [IntKind.min, IntKind.max, IntKind.signed, IntKind.bits] at h
  simp at h; omega
theorem rd_intR : Reads Tryz.prog 3 Int (fun n => [PVal.k .i64 n]) (fun n => -9223372036854775808 ≤ n ∧ n ≤ 9223372036854775807) := (reads_int inferInstance).imp' id (fun _ _ => rfl) (fun _ h => ri64_of h)
theorem rd_cfg : Reads Tryz.prog 23 (Int × Int × Int) (fun o => [.i o.1, .i o.2.1, .i o.2.2]) (fun _ => True) :=
  (reads_struct (inferInstance : TI Tryz.prog 23 _ _ _)
    (readsFs_cons (inferInstance : TI Tryz.prog 3 _ _ _) rd_intR (readsFs_cons (inferInstance : TI Tryz.prog 3 _ _ _) rd_intR (readsFs_cons (inferInstance : TI Tryz.prog 3 _ _ _) rd_intR (readsFs_nil rfl))))).imp
    (fun x => (x.1, x.2.1, x.2.2.1)) (fun x => rfl) (fun x h => trivial)
/-- a membership that may be, as natural numbers -/
theorem cfg_nat {c1 c2 c3 : Int} (h : rRight c1 c2 c3 = true) : ∃ n v r : Nat, c1 = n ∧ c2 = v ∧ c3 = r := by
  unfold rRight at h
  have := of_decide_eq_true h
  exact ⟨c1.toNat, c2.toNat, c3.toNat, by omega, by omega, by omega⟩
theorem rd_key : Reads Tryz.prog 9 (List Nat) (fun k => [.v (.string (strOf k))]) (fun k => okB k ∧ k.length ≤ 9223372036854775807) :=
  (reads_string inferInstance).imp' bytesOf (fun s _ => by rw [strOf_bytesOf]) (fun s h => ⟨bytesOf_ok s, by
    have e : (bytesOf s).length = s.size := by rw [← strOf_size, strOf_bytesOf]
    have h' : s.size ≤ 2 ^ 63 - 1 := h
    omega⟩)
theorem rd_up : Reads Tryz.prog 24 (List Int) (fun l => [.sl 1 (l.map iR) false]) (fun l => True) :=
  (reads_slice inferInstance inferInstance (by decide) rd_intR).imp' id (fun _ _ => rfl) (fun _ _ => trivial)
end Go.Proofs.YthhlcdacmlnjdaaGreat.Rg
