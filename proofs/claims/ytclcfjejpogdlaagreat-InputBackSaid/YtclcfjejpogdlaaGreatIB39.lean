/- edits: ops, the next dot, vectors with a dot, and which cover each other; sets of dots; inputs in plain Lean: there and back, in one way alone -/
import Derived.Test.YtclcfjejpogdlaaGreatIB38
namespace Go.Proofs.YtclcfjejpogdlaaGreat.Ca
open Go Go.RowKit Go.Aw Go.Aw.Cart Go.Aw.Ord Go.Sort
set_option linter.unusedVariables false
set_option linter.unusedSimpArgs false
set_option maxRecDepth 8000
set_option maxHeartbeats 4000000
namespace E1
theorem lopC {C : Ctx} {o : Oper} {σ : St} {e : Eff} {ro : Nat → Bool} (h : LOp C o σ e ro := by
    first
      | (apply gField; (focus rfl); first | exact lop_fieldAddr_p rfl rfl (by decide) rfl rfl | exact lop_fieldAddr_bx rfl rfl (by decide) rfl rfl)
            | (apply lop_bsa; (focus rfl); (focus exact inferInstance); (focus exact inferInstance); (focus exact inferInstance); (focus repeat' (first | exact All2.nil | (apply bs_cons; (focus rfl); (focus rfl); (focus rfl)))); (focus rfl); (focus decide); (focus first | decide | omega); (focus rfl); (focus rfl))
            | (apply lop_mfa1; (focus rfl); (focus rfl); (focus rfl); (focus rfl); (focus rfl); (focus rfl))
            | (apply lop_mfa2; (focus rfl); (focus rfl); (focus rfl); (focus rfl); (focus rfl); (focus rfl); (focus rfl); (focus rfl); (focus rfl); (focus decide); (focus rfl))
            | (apply lop_mfa3; (focus rfl); (focus rfl); (focus rfl); (focus rfl); (focus rfl); (focus rfl); (focus rfl); (focus rfl); (focus rfl); (focus rfl); (focus rfl); (focus rfl); (focus rfl); (focus decide); (focus decide); (focus decide); (focus rfl))
            | (apply gLoad; (focus rfl); apply lop_ld_bxp; (focus rfl); (focus exact inferInstance); (focus rfl); (focus rfl); (focus rfl); (focus rfl); (focus rfl))
      | exact lopV
      | (apply lop_call2; (focus rfl); (focus exact inferInstance); (focus first | exact lk_v8 (by assumption) rfl | exact lk_v8l rfl); (focus first | exact lk_v8 (by assumption) rfl | exact lk_v8l rfl); (focus exact inferInstance); (focus exact inferInstance); (focus first | exact True.intro | assumption | rfl | omega | ((repeat' (first | assumption | refine And.intro ?_ ?_ | omega | rfl)); done) | fail); (focus rfl))
      | fail) : LOp C o σ e ro := h
section steps
variable {C : Ctx} {ops : Array Oper} {o : Oper} {rest : List Oper} {K : St → Prop} {σ : St} {e : Eff} {ro : Nat → Bool} {W : List (Nat × Nat)} {i : Nat}
theorem rnC {d : Nat} (hk : RunN C ops rest K (e.app (some d) σ)) (hg : Guard ops σ o true := by first | exact gd_n rfl rfl | exact gd_t rfl rfl rfl rfl | exact gd_t rfl rfl rfl (by assumption)) (hd : o.dst = some d := by rfl) (h : LOp C o σ e ro := by exact lopC) : RunN C ops (o :: rest) K σ := rn_any hg hd h hk
end steps
end E1
open E1
/-! ops -/
abbrev Op3 := Int × Int × Int
abbrev opL (o : Op3) : List AC := [.p (.i o.1), .p (.i o.2.1), .p (.i o.2.2)]
abbrev opR (o : Op3) : List PVal := [.i o.1, .i o.2.1, .i o.2.2]
abbrev opV (o : Op3) : AV := .a (opL o)
def mayF (o : Op3) : Bool := decide ((o.1 = 4 ∧ o.2.1 = 0 ∧ o.2.2 = 0) ∨ (1 ≤ o.2.1 ∧ o.2.1 ≤ 60 ∧ ((o.1 = 1 ∧ o.2.2 ≠ 0 ∧ -1000 ≤ o.2.2 ∧ o.2.2 ≤ 1000) ∨ (o.1 = 2 ∧ 0 ≤ o.2.2 ∧ o.2.2 ≤ 1000) ∨ (o.1 = 3 ∧ o.2.2 = 0))))
def winF (n a b : Int) : Bool := decide (a ≤ n ∧ n ≤ b)
theorem within_e (n a b : Int) : PCall Tryz.prog 213 [.p (.i n), .p (.i a), .p (.i b)] (.p (.b (winF n a b))) := by
  refine pcall_of Tryz.func213 rfl (fun w0 F S0 M0 => ?_)
  unfold winF
  as_aux_lemma =>
    repeat' (first | refine rnJ ?_ | refine rnSB ?_ | refine rnG ?_ | refine rnU ?_ | ((fail_if_success (refine rnKn ?_)); refine rnP ?_ ?_ <;> (intro hq; try (have hq' := hq; simp only [hqs] at hq'))) | refine rkJ ?_ | refine rkSB ?_ | refine rkF ?_ | refine rkU ?_ | ((fail_if_success (refine rkKn ?_)); refine rkP ?_ ?_ <;> (intro hq; try (have hq' := hq; simp only [hqs] at hq'))) | refine stp ?_ | refine aws_draws [] mixed (by kernel_rfl) ?_ | refine ifT ?_ | refine ifF ?_ | (refine ifQ ?_ ?_ <;> (try (intro hn))) | (refine ifB ?_ ?_ <;> (intro hq; try (have hq' := hq; simp only [hqs] at hq'))))
    all_goals refine rt1 rfl rfl finS_p (rb ?_)
    all_goals first | exact decide_eq_decide.2 (by omega) | exact decide_eq_true (by omega) | exact decide_eq_false (by omega)
instance {n a b : Int} : PC Tryz.prog 213 [.p (.i n), .p (.i a), .p (.i b)] True (.p (.b (winF n a b))) := ⟨fun _ => within_e n a b⟩
theorem vEq3 (a b c d e f : Int) : vEqB [.int .i64 a, .int .i64 b, .int .i64 c] [.int .i64 d, .int .i64 e, .int .i64 f] = decide (a = d ∧ b = e ∧ c = f) := by
  rw [Bool.eq_iff_iff, decide_eq_true_eq]; simp [vEqB, vEq, and_assoc]
theorem may_w (o : Op3) : PCall Tryz.prog 145 [opV o] (.p (.b (mayF o))) := by
  refine pcall_of Tryz.func145 rfl (fun w0 F S0 M0 => ?_)
  by_cases h4 : o.1 = 4
  · have d1 : decide (o.1 = 4) = true := decide_eq_true h4
    have e : mayF o = vEqB [.int .i64 o.1, .int .i64 o.2.1, .int .i64 o.2.2] [.int .i64 4, .int .i64 0, .int .i64 0] := by
      rw [vEq3]; unfold mayF; exact decide_eq_decide.2 (by omega)
    rw [e]
    as_aux_lemma =>
      repeat' (first | refine rnC ?_ | refine rnSB ?_ | refine rnG ?_ | refine rnU ?_ | ((fail_if_success (refine rnKn ?_)); refine rnP ?_ ?_ <;> (intro hq; try (have hq' := hq; simp only [hqs] at hq'))) | refine rkC ?_ | refine rkSB ?_ | refine rkF ?_ | refine rkU ?_ | ((fail_if_success (refine rkKn ?_)); refine rkP ?_ ?_ <;> (intro hq; try (have hq' := hq; simp only [hqs] at hq'))) | refine stp ?_ | refine aws_draws [] mixed (by kernel_rfl) ?_ | refine ifT ?_ | refine ifF ?_ | (refine ifQ ?_ ?_ <;> (try (intro hn))) | (refine ifB ?_ ?_ <;> (intro hq; try (have hq' := hq; simp only [hqs] at hq'))))
      exact rt1 rfl rfl finS_p rfl
  · have d1 : decide (o.1 = 4) = false := decide_eq_false h4
    by_cases hi : 1 ≤ o.2.1 ∧ o.2.1 ≤ 60
    · have d2 : (!winF o.2.1 1 60) = false := by rw [show winF o.2.1 1 60 = true from decide_eq_true hi]; rfl
      by_cases h1 : o.1 = 1
      · have d3 : decide (o.1 = 1) = true := decide_eq_true h1
        by_cases hz : o.2.2 = 0
        · have d4 : decide (o.2.2 ≠ 0) = false := decide_eq_false fun q => q hz
          rw [show mayF o = false from decide_eq_false (by omega)]
          as_aux_lemma =>
            repeat' (first | refine rnC ?_ | refine rnSB ?_ | refine rnG ?_ | refine rnU ?_ | ((fail_if_success (refine rnKn ?_)); refine rnP ?_ ?_ <;> (intro hq; try (have hq' := hq; simp only [hqs] at hq'))) | refine rkC ?_ | refine rkSB ?_ | refine rkF ?_ | refine rkU ?_ | ((fail_if_success (refine rkKn ?_)); refine rkP ?_ ?_ <;> (intro hq; try (have hq' := hq; simp only [hqs] at hq'))) | refine stp ?_ | refine aws_draws [] mixed (by kernel_rfl) ?_ | refine ifT ?_ | refine ifF ?_ | (refine ifQ ?_ ?_ <;> (try (intro hn))) | (refine ifB ?_ ?_ <;> (intro hq; try (have hq' := hq; simp only [hqs] at hq'))))
            exact rt1 rfl rfl finS_p rfl
        · have d4 : decide (o.2.2 ≠ 0) = true := decide_eq_true hz
          rw [show mayF o = winF o.2.2 (-1000) 1000 from decide_eq_decide.2 (by omega)]
          as_aux_lemma =>
            repeat' (first | refine rnC ?_ | refine rnSB ?_ | refine rnG ?_ | refine rnU ?_ | ((fail_if_success (refine rnKn ?_)); refine rnP ?_ ?_ <;> (intro hq; try (have hq' := hq; simp only [hqs] at hq'))) | refine rkC ?_ | refine rkSB ?_ | refine rkF ?_ | refine rkU ?_ | ((fail_if_success (refine rkKn ?_)); refine rkP ?_ ?_ <;> (intro hq; try (have hq' := hq; simp only [hqs] at hq'))) | refine stp ?_ | refine aws_draws [] mixed (by kernel_rfl) ?_ | refine ifT ?_ | refine ifF ?_ | (refine ifQ ?_ ?_ <;> (try (intro hn))) | (refine ifB ?_ ?_ <;> (intro hq; try (have hq' := hq; simp only [hqs] at hq'))))
            exact rt1 rfl rfl finS_p rfl
      · have d3 : decide (o.1 = 1) = false := decide_eq_false h1
        by_cases h2 : o.1 = 2
        · have d4 : decide (o.1 = 2) = true := decide_eq_true h2
          rw [show mayF o = winF o.2.2 0 1000 from decide_eq_decide.2 (by omega)]
          as_aux_lemma =>
            repeat' (first | refine rnC ?_ | refine rnSB ?_ | refine rnG ?_ | refine rnU ?_ | ((fail_if_success (refine rnKn ?_)); refine rnP ?_ ?_ <;> (intro hq; try (have hq' := hq; simp only [hqs] at hq'))) | refine rkC ?_ | refine rkSB ?_ | refine rkF ?_ | refine rkU ?_ | ((fail_if_success (refine rkKn ?_)); refine rkP ?_ ?_ <;> (intro hq; try (have hq' := hq; simp only [hqs] at hq'))) | refine stp ?_ | refine aws_draws [] mixed (by kernel_rfl) ?_ | refine ifT ?_ | refine ifF ?_ | (refine ifQ ?_ ?_ <;> (try (intro hn))) | (refine ifB ?_ ?_ <;> (intro hq; try (have hq' := hq; simp only [hqs] at hq'))))
            exact rt1 rfl rfl finS_p rfl
        · have d4 : decide (o.1 = 2) = false := decide_eq_false h2
          by_cases h3 : o.1 = 3
          · have d5 : decide (o.1 = 3) = true := decide_eq_true h3
            rw [show mayF o = decide (o.2.2 = 0) from decide_eq_decide.2 (by omega)]
            as_aux_lemma =>
              repeat' (first | refine rnC ?_ | refine rnSB ?_ | refine rnG ?_ | refine rnU ?_ | ((fail_if_success (refine rnKn ?_)); refine rnP ?_ ?_ <;> (intro hq; try (have hq' := hq; simp only [hqs] at hq'))) | refine rkC ?_ | refine rkSB ?_ | refine rkF ?_ | refine rkU ?_ | ((fail_if_success (refine rkKn ?_)); refine rkP ?_ ?_ <;> (intro hq; try (have hq' := hq; simp only [hqs] at hq'))) | refine stp ?_ | refine aws_draws [] mixed (by kernel_rfl) ?_ | refine ifT ?_ | refine ifF ?_ | (refine ifQ ?_ ?_ <;> (try (intro hn))) | (refine ifB ?_ ?_ <;> (intro hq; try (have hq' := hq; simp only [hqs] at hq'))))
              exact rt1 rfl rfl finS_p rfl
          · have d5 : decide (o.1 = 3) = false := decide_eq_false h3
            rw [show mayF o = false from decide_eq_false (by omega)]
            as_aux_lemma =>
              repeat' (first | refine rnC ?_ | refine rnSB ?_ | refine rnG ?_ | refine rnU ?_ | ((fail_if_success (refine rnKn ?_)); refine rnP ?_ ?_ <;> (intro hq; try (have hq' := hq; simp only [hqs] at hq'))) | refine rkC ?_ | refine rkSB ?_ | refine rkF ?_ | refine rkU ?_ | ((fail_if_success (refine rkKn ?_)); refine rkP ?_ ?_ <;> (intro hq; try (have hq' := hq; simp only [hqs] at hq'))) | refine stp ?_ | refine aws_draws [] mixed (by kernel_rfl) ?_ | refine ifT ?_ | refine ifF ?_ | (refine ifQ ?_ ?_ <;> (try (intro hn))) | (refine ifB ?_ ?_ <;> (intro hq; try (have hq' := hq; simp only [hqs] at hq'))))
              exact rt1 rfl rfl finS_p rfl
    · have d2 : (!winF o.2.1 1 60) = true := by rw [show winF o.2.1 1 60 = false from decide_eq_false hi]; rfl
      rw [show mayF o = false from decide_eq_false (by omega)]
      as_aux_lemma =>
        repeat' (first | refine rnC ?_ | refine rnSB ?_ | refine rnG ?_ | refine rnU ?_ | ((fail_if_success (refine rnKn ?_)); refine rnP ?_ ?_ <;> (intro hq; try (have hq' := hq; simp only [hqs] at hq'))) | refine rkC ?_ | refine rkSB ?_ | refine rkF ?_ | refine rkU ?_ | ((fail_if_success (refine rkKn ?_)); refine rkP ?_ ?_ <;> (intro hq; try (have hq' := hq; simp only [hqs] at hq'))) | refine stp ?_ | refine aws_draws [] mixed (by kernel_rfl) ?_ | refine ifT ?_ | refine ifF ?_ | (refine ifQ ?_ ?_ <;> (try (intro hn))) | (refine ifB ?_ ?_ <;> (intro hq; try (have hq' := hq; simp only [hqs] at hq'))))
        exact rt1 rfl rfl finS_p rfl
instance {o : Op3} : PC Tryz.prog 145 [opV o] True (.p (.b (mayF o))) := ⟨fun _ => may_w o⟩
/-! vectors -/
/-! sets of dots -/
end Go.Proofs.YtclcfjejpogdlaaGreat.Ca
namespace Go.Proofs.YtclcfjejpogdlaaGreat.Wi
open Go Go.RowKit Go.Aw Go.Aw.Cart Go.Aw.Tree Go.Proofs.YtclcfjejpogdlaaGreat.Ca Go.Proofs.YtclcfjejpogdlaaGreat.Rg
set_option linter.unusedVariables false
set_option linter.unusedSimpArgs false
/-- an input -/
structure Inp where
  kind : Int
  id : Int
  key : List Nat
  op : Op3
  draw : Nat
  msg : Msg
def zeroI : Inp := ⟨0, 0, [], (0, 0, 0), 0, zeroM⟩
def opB (o : Op3) : List Nat := numI o.1 ++ (numI o.2.1 ++ intB o.2.2)
def opS : RS → Op3 × RS := bindS (smallS 4) fun a => bindS (smallS 60) fun b => bindS intS fun c => bindS (mustU (mayF (a, b, c))) fun _ => okS (a, b, c) (0, 0, 0)
theorem par_op : Par opS := par_bind (par_small _) fun _ => par_bind (par_small _) fun _ => par_bind par_int fun _ => par_bind (par_must _) fun _ => par_ok _ _
def cliF (i : Int) (k : List Nat) : Bool := decide (1 ≤ i) && (decide (i ≤ 1099511627776) && keyR k)
def okI (x : Inp) : Bool := if x.kind = 1 then cliF x.id x.key && mayF x.op else if x.kind = 2 then cliF x.id x.key else if x.kind = 5 then rightM x.msg else decide (1 ≤ x.kind) && decide (x.kind ≤ 8)
def ownI (x : Inp) : Inp where
  kind := x.kind
  id := if x.kind = 1 ∨ x.kind = 2 then x.id else 0
  key := if x.kind = 1 ∨ x.kind = 2 then x.key else []
  op := if x.kind = 1 then x.op else (0, 0, 0)
  draw := if x.kind = 4 then x.draw else 0
  msg := if x.kind = 5 then x.msg else zeroM
def sameI (a b : Inp) : Bool := decide (a.kind = b.kind) && (decide (a.id = b.id) && (decide (a.key = b.key) && (decide (a.op = b.op) && (decide (a.draw = b.draw) && sameM a.msg b.msg))))
theorem sameI_iff {a b : Inp} : sameI a b = true ↔ a = b := by
  obtain ⟨a1, a2, a3, a4, a5, a6⟩ := a
  obtain ⟨b1, b2, b3, b4, b5, b6⟩ := b
  unfold sameI
  simp only [Bool.and_eq_true, decide_eq_true_iff, sameM_iff, Inp.mk.injEq]
theorem sameI_refl (a : Inp) : sameI a a = true := sameI_iff.2 rfl
def rightI (x : Inp) : Bool := okI x && sameI x (ownI x)
def bodyB (x : Inp) : List Nat := if x.kind = 1 then numI x.id ++ (textB x.key ++ opB x.op) else if x.kind = 2 then numI x.id ++ textB x.key else if x.kind = 4 then numB x.draw else if x.kind = 5 then textB (msgB x.msg) else []
def inpB (x : Inp) : List Nat := numI x.kind ++ bodyB x
def bodyS (k : Int) : RS → Inp × RS :=
  if k = 1 then bindS (smallS 1099511627776) fun i => bindS (textS 20) fun key => bindS opS fun o => pureS ⟨k, i, key, o, 0, zeroM⟩
  else if k = 2 then bindS (smallS 1099511627776) fun i => bindS (textS 20) fun key => pureS ⟨k, i, key, (0, 0, 0), 0, zeroM⟩
  else if k = 4 then bindS numS fun d => pureS ⟨k, 0, [], (0, 0, 0), d, zeroM⟩
  else if k = 5 then bindS (textS 16777216) fun b => bindS (mustU (decide ((readM b).2 = 0))) fun _ => pureS ⟨k, 0, [], (0, 0, 0), 0, (readM b).1⟩
  else pureS ⟨k, 0, [], (0, 0, 0), 0, zeroM⟩
theorem par_body (k : Int) : Par (bodyS k) := by
  unfold bodyS
  split
  · exact par_bind (par_small _) fun _ => par_bind (par_text _) fun _ => par_bind par_op fun _ => par_pure _
  split
  · exact par_bind (par_small _) fun _ => par_bind (par_text _) fun _ => par_pure _
  split
  · exact par_bind par_num fun _ => par_pure _
  split
  · exact par_bind (par_text _) fun _ => par_bind (par_must _) fun _ => par_pure _
  · exact par_pure _
def inS : RS → Inp × RS := bindS (smallS 8) bodyS
/-- the input of bytes -/
def readI (b : List Nat) : Inp × Int := if endS (inS (b, 0)).2 ≠ 0 ∨ rightI (inS (b, 0)).1 = false then (zeroI, 3) else ((inS (b, 0)).1, 0)
/-! what stands behind changes nothing -/
def Ext {α : Type} (P : RS → α × RS) : Prop := ∀ l y rest q, P (l, 0) = (y, (rest, 0)) → P (l ++ q, 0) = (y, (rest ++ q, 0))
theorem ext_bind {α β : Type} {P : RS → α × RS} {Q : α → RS → β × RS} (hP : Ext P) (hQ : ∀ a, Par (Q a)) (hE : ∀ a, Ext (Q a)) : Ext (bindS P Q) := fun l y rest q h => by
  obtain ⟨a, m, h1, h2⟩ := bind_inv hQ h
  show Q (P (l ++ q, 0)).1 (P (l ++ q, 0)).2 = _
  rw [hP _ _ _ q h1]
  exact hE a _ _ _ q h2
theorem ext_pure {α : Type} (a : α) : Ext (pureS a) := fun l y rest q h => by
  obtain ⟨rfl, rfl⟩ := pure_inv h
  rfl
theorem ext_ok {α : Type} (a z : α) : Ext (okS a z) := fun l y rest q h => by
  obtain ⟨rfl, rfl⟩ := ok_inv h
  show (if (0 : Int) = 0 then _ else _, _) = _
  rw [if_pos rfl]
theorem ext_must (b : Bool) : Ext (mustU b) := fun l y rest q h => by
  obtain ⟨rfl, rfl⟩ := must_inv h
  exact must_ok rfl
theorem ext_take (n : Nat) : Ext (takeS n) := fun l y rest q h => by
  obtain ⟨rfl, hl⟩ := take_inv h
  rw [List.append_assoc]
  exact take_ok hl
theorem ext_num : Ext numS := by
  rw [numS_eq]
  refine ext_bind (ext_take _) (fun hd => ?_) fun hd => ?_
  · split
    · exact par_pure _
    · exact par_bind (par_must _) fun _ => par_bind (par_take _) fun L => par_bind (par_must _) fun _ => par_ok _ _
  · split
    · exact ext_pure _
    · exact ext_bind (ext_must _) (fun _ => par_bind (par_take _) fun L => par_bind (par_must _) fun _ => par_ok _ _) fun _ => ext_bind (ext_take _) (fun L => par_bind (par_must _) fun _ => par_ok _ _) fun L => ext_bind (ext_must _) (fun _ => par_ok _ _) fun _ => ext_ok _ _
theorem ext_small (most : Int) : Ext (smallS most) := by
  rw [smallS_eq]
  exact ext_bind ext_num (fun _ => par_bind (par_must _) fun _ => par_ok _ _) fun _ => ext_bind (ext_must _) (fun _ => par_ok _ _) fun _ => ext_ok _ _
theorem ext_int : Ext intS := ext_bind ext_num (fun _ => par_bind (par_must _) fun _ => par_ok _ _) fun _ => ext_bind (ext_must _) (fun _ => par_ok _ _) fun _ => ext_ok _ _
theorem ext_text (most : Int) : Ext (textS most) := ext_bind (ext_small _) (fun _ => par_take _) fun _ => ext_take _
theorem ext_op : Ext opS := ext_bind (ext_small _) (fun _ => par_bind (par_small _) fun _ => par_bind par_int fun _ => par_bind (par_must _) fun _ => par_ok _ _) fun _ => ext_bind (ext_small _) (fun _ => par_bind par_int fun _ => par_bind (par_must _) fun _ => par_ok _ _) fun _ => ext_bind ext_int (fun _ => par_bind (par_must _) fun _ => par_ok _ _) fun _ => ext_bind (ext_must _) (fun _ => par_ok _ _) fun _ => ext_ok _ _
theorem ext_body (k : Int) : Ext (bodyS k) := by
  unfold bodyS
  split
  · exact ext_bind (ext_small _) (fun _ => par_bind (par_text _) fun _ => par_bind par_op fun _ => par_pure _) fun _ => ext_bind (ext_text _) (fun _ => par_bind par_op fun _ => par_pure _) fun _ => ext_bind ext_op (fun _ => par_pure _) fun _ => ext_pure _
  split
  · exact ext_bind (ext_small _) (fun _ => par_bind (par_text _) fun _ => par_pure _) fun _ => ext_bind (ext_text _) (fun _ => par_pure _) fun _ => ext_pure _
  split
  · exact ext_bind ext_num (fun _ => par_pure _) fun _ => ext_pure _
  split
  · exact ext_bind (ext_text _) (fun _ => par_bind (par_must _) fun _ => par_pure _) fun _ => ext_bind (ext_must _) (fun _ => par_pure _) fun _ => ext_pure _
  · exact ext_pure _
theorem ext_in : Ext inS := ext_bind (ext_small _) par_body ext_body
/-! there and back -/
theorem may_in {o : Op3} (h : mayF o = true) : (0 ≤ o.1 ∧ o.1 ≤ 4) ∧ (0 ≤ o.2.1 ∧ o.2.1 ≤ 60) ∧ (-1000 ≤ o.2.2 ∧ o.2.2 ≤ 1000) := by
  have := of_decide_eq_true h
  omega
theorem op_back {o : Op3} (h : mayF o = true) (q : List Nat) : opS (opB o ++ q, 0) = (o, (q, 0)) := by
  obtain ⟨⟨a1, a2⟩, ⟨b1, b2⟩, c1, c2⟩ := may_in h
  have e : opB o ++ q = numI o.1 ++ (numI o.2.1 ++ (intB o.2.2 ++ q)) := by unfold opB; simp only [List.append_assoc]
  rw [e]
  have hm : mayF (o.1, o.2.1, o.2.2) = true := h
  simp only [opS, bindS, smallI_back (n := o.1) (most := 4) a1 a2 (by decide), smallI_back (n := o.2.1) (most := 60) b1 b2 (by decide), int_back (n := o.2.2) (by omega), must_ok hm, okS]
  rfl
/-- what programs give of an input -/
structure IIn (x : Inp) : Prop where
  key : okB x.key
  kl : x.key.length ≤ 100
  draw : x.draw < 18446744073709551616
  msg : MIn x.msg
  gr : greatL x.msg.kds = false
theorem msgB_few {m : Msg} (h : MIn m) (hr : rightM m = true) (hg : greatL m.kds = false) : (msgB m).length ≤ 900000 := by
  have ok := right_ok hr
  have ho := keys_iff.1 ok.kds
  have h30 := (greatL_no hg).1
  have hk : (m.kds.flatMap kdB).length ≤ 20029 * m.kds.length := flat_len fun k hk => kdB_len (ho.key k hk) (h.kd k hk).vec (ho.cart k hk)
  have h1 : (listB m.kds).length ≤ 700000 := by
    have := numB_le m.kds.length
    unfold listB
    rw [List.length_append]
    omega
  have h2 := nums_le (headM m)
  have h3 := nums_le m.pls
  have h4 := digs_le (l := m.dgs) fun d hd => (h.dg d hd).1
  have h5 := numB_le m.pls.length
  have h6 := numB_le m.dgs.length
  have h7 : (if m.kind = 1 then m.dig else []).length ≤ 32 := by
    split
    · rw [h.d32]; exact Nat.le_refl _
    · simp
  have h8 : (headM m).length = 5 := rfl
  have h9 := ok.pl
  have h10 := ok.dl
  unfold msgB msgH
  simp only [List.length_append]
  omega
theorem own_of {x : Inp} (h : rightI x = true) : okI x = true ∧ ownI x = x := by
  unfold rightI at h
  rw [Bool.and_eq_true] at h
  exact ⟨h.1, (sameI_iff.1 h.2).symm⟩
theorem cli_in {i : Int} {k : List Nat} (h : cliF i k = true) : (1 ≤ i ∧ i ≤ 1099511627776) ∧ keyR k = true ∧ k.length ≤ 20 := by
  unfold cliF at h
  rw [Bool.and_eq_true, Bool.and_eq_true, decide_eq_true_iff, decide_eq_true_iff] at h
  exact ⟨⟨h.1, h.2.1⟩, h.2.2, (of_decide_eq_true h.2.2).1.2⟩
theorem kind_in {x : Inp} (h : okI x = true) : 1 ≤ x.kind ∧ x.kind ≤ 8 := by
  unfold okI at h
  split at h
  · omega
  split at h
  · omega
  split at h
  · omega
  · rw [Bool.and_eq_true, decide_eq_true_iff, decide_eq_true_iff] at h; exact h
section
attribute [local irreducible] smallS textS numS opS readM msgB textB numI numB opB zeroM intS
theorem body_back {x : Inp} (hi : IIn x) (hr : rightI x = true) (q : List Nat) : bodyS x.kind (bodyB x ++ q, 0) = (x, (q, 0)) := by
  obtain ⟨ho, hw⟩ := own_of hr
  obtain ⟨k, i, key, o, d, m⟩ := x
  have h1 := hi.draw
  have h2 := hi.msg
  have h3 := hi.gr
  clear hi hr
  unfold ownI at hw
  rw [Inp.mk.injEq] at hw
  obtain ⟨-, w2, w3, w4, w5, w6⟩ := hw
  unfold okI at ho
  unfold bodyS bodyB
  dsimp only at *
  by_cases k1 : k = 1
  · rw [if_pos k1] at ho w4 ⊢
    rw [if_pos k1]
    rw [if_neg (by omega)] at w5 w6
    rw [Bool.and_eq_true] at ho
    obtain ⟨⟨a1, a2⟩, -, a3⟩ := cli_in ho.1
    rw [← w5, ← w6]
    simp only [List.append_assoc, bindS, smallI_back (n := i) (most := 1099511627776) (by omega) a2 (by decide), text_back (b := key) (most := 20) (by omega) (by decide), op_back ho.2, pureS]
  rw [if_neg k1] at ho w4 ⊢
  rw [if_neg k1]
  by_cases k2 : k = 2
  · rw [if_pos k2] at ho ⊢
    rw [if_pos k2]
    rw [if_neg (by omega)] at w5 w6
    obtain ⟨⟨a1, a2⟩, -, a3⟩ := cli_in ho
    rw [← w4, ← w5, ← w6]
    simp only [List.append_assoc, bindS, smallI_back (n := i) (most := 1099511627776) (by omega) a2 (by decide), text_back (b := key) (most := 20) (by omega) (by decide), pureS]
  rw [if_neg k2] at ho ⊢
  rw [if_neg k2]
  rw [if_neg (by omega)] at w2 w3
  rw [← w2, ← w3, ← w4]
  by_cases k4 : k = 4
  · rw [if_pos k4]
    rw [if_pos k4]
    rw [if_neg (by omega)] at w6
    rw [← w6]
    simp only [bindS, num_back h1, pureS]
  rw [if_neg k4] at w5 ⊢
  rw [if_neg k4]
  rw [← w5]
  by_cases k5 : k = 5
  · rw [if_pos k5] at ho ⊢
    rw [if_pos k5]
    have hl := msgB_few h2 ho h3
    have hb := mread_back h2 ho
    have hd : decide ((readM (msgB m)).2 = 0) = true := by rw [hb]; rfl
    simp only [bindS, text_back (b := msgB m) (most := 16777216) (by omega) (by decide)]
    rw [must_ok hd, hb]
    rfl
  rw [if_neg k5] at w6 ⊢
  rw [if_neg k5]
  rw [← w6]
  simp only [List.nil_append, pureS]
theorem in_back {x : Inp} (hi : IIn x) (hr : rightI x = true) (q : List Nat) : inS (inpB x ++ q, 0) = (x, (q, 0)) := by
  obtain ⟨k1, k2⟩ := kind_in (own_of hr).1
  unfold inS inpB bindS
  rw [List.append_assoc, smallI_back (n := x.kind) (most := 8) (by omega) k2 (by decide)]
  exact body_back hi hr q
end
theorem iread_back {x : Inp} (hi : IIn x) (hr : rightI x = true) : readI (inpB x) = (x, 0) := by
  have h := in_back hi hr []
  rw [List.append_nil] at h
  unfold readI
  rw [h]
  dsimp only
  rw [hr, if_neg (by simp [endS])]
theorem iread_more {x : Inp} (hi : IIn x) (hr : rightI x = true) : readI (inpB x ++ [0]) = (zeroI, 3) := by
  have h := in_back hi hr [0]
  unfold readI
  rw [h, if_pos (.inl (by simp [endS]))]
theorem end_zero {r : RS} (h : endS r = 0) : r = ([], 0) := by
  unfold endS at h
  by_cases q : r.2 ≠ 0
  · rw [if_pos q] at h; exact absurd h q
  · rw [if_neg q] at h
    by_cases p : 0 < r.1.length
    · rw [if_pos p] at h; exact absurd h (by decide)
    · exact Prod.ext (List.eq_nil_of_length_eq_zero (by omega)) (Decidable.not_not.1 q)
theorem iread_cut {x : Inp} (hi : IIn x) (hr : rightI x = true) {k : Nat} (hk : k < (inpB x).length) : readI ((inpB x).take k) = (zeroI, 3) := by
  unfold readI
  rw [if_pos]
  left
  intro he
  have e := end_zero he
  have h1 : inS ((inpB x).take k, 0) = ((inS ((inpB x).take k, 0)).1, ([], 0)) := Prod.ext rfl e
  have h2 := ext_in _ _ _ ((inpB x).drop k) h1
  rw [List.take_append_drop] at h2
  have h3 := in_back hi hr []
  rw [List.append_nil, h2] at h3
  have h4 : (inpB x).drop k = [] := by
    have := congrArg (fun z => z.2.1) h3
    exact this
  have := congrArg List.length h4
  rw [List.length_drop] at this
  simp at this
  omega
theorem inpB_inj {x y : Inp} (h : IIn x) (hr : rightI x = true) (k : IIn y) (kr : rightI y = true) (e : inpB x = inpB y) : x = y := by
  have h1 := iread_back h hr
  rw [e, iread_back k kr] at h1
  exact (Prod.mk.inj h1).1.symm
theorem opB_ok (o : Op3) : okB (opB o) := okB_app (numB_ok _) (okB_app (numB_ok _) (numB_ok _))
theorem textB_ok {b : List Nat} (h : okB b) : okB (textB b) := okB_app (numB_ok _) h
theorem inpB_ok {x : Inp} (h : IIn x) : okB (inpB x) := by
  unfold inpB bodyB
  refine okB_app (numB_ok _) ?_
  split
  · exact okB_app (numB_ok _) (okB_app (textB_ok h.key) (opB_ok _))
  split
  · exact okB_app (numB_ok _) (textB_ok h.key)
  split
  · exact numB_ok _
  split
  · exact textB_ok (msgB_ok h.msg)
  · exact fun c hc => by cases hc
theorem opB_le (o : Op3) : (opB o).length ≤ 27 := by
  have h1 := numI_len o.1
  have h2 := numI_len o.2.1
  have h3 := intB_len o.2.2
  unfold opB
  rw [List.length_append, List.length_append]
  omega
theorem inpB_le {x : Inp} (h : IIn x) (hr : rightI x = true) : (inpB x).length ≤ 1000000 := by
  have ho := (own_of hr).1
  have h1 := numI_len x.kind
  have h2 := numI_len x.id
  have h3 := textB_le x.key
  have h4 := opB_le x.op
  have h5 := numB_le x.draw
  have h6 := textB_le (msgB x.msg)
  have h7 := h.kl
  unfold inpB bodyB
  unfold okI at ho
  rw [List.length_append]
  split
  · rw [List.length_append, List.length_append]; omega
  split
  · rw [List.length_append]; omega
  split
  · omega
  rename_i k1 k2 k4
  rw [if_neg k1, if_neg k2] at ho
  split
  · rename_i k5
    rw [if_pos k5] at ho
    have := msgB_few h.msg ho h.gr
    omega
  · simp; omega
end Go.Proofs.YtclcfjejpogdlaaGreat.Wi
