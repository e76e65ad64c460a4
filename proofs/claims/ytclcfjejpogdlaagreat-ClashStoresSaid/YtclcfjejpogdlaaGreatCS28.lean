/- packs: texts compared; a cart of bytes; which lists may be; carts, the laws: fixed calls -/
import Derived.Test.YtclcfjejpogdlaaGreatCS27
import Derived.Test.YtclcfjejpogdlaaGreatCS22
import Derived.Laws.Cover1
import Derived.Test.YtclcfjejpogdlaaGreatCS16
namespace Go.Aw
open Go Go.RowKit
theorem u8_lt {x y : Nat} (hx : x < 256) (hy : y < 256) : (UInt8.ofNat x < UInt8.ofNat y) ↔ x < y := by
  rw [UInt8.lt_iff_toNat_lt, UInt8.toNat_ofNat', UInt8.toNat_ofNat', Nat.mod_eq_of_lt (by omega), Nat.mod_eq_of_lt (by omega)]
theorem u8_eq {x y : Nat} (hx : x < 256) (hy : y < 256) : (UInt8.ofNat x = UInt8.ofNat y) ↔ x = y := by
  rw [← UInt8.toNat_inj, UInt8.toNat_ofNat', UInt8.toNat_ofNat', Nat.mod_eq_of_lt (by omega), Nat.mod_eq_of_lt (by omega)]
end Go.Aw
namespace Go.Proofs.YtclcfjejpogdlaaGreat.Wi
open Go Go.RowKit Go.Aw Go.Aw.Cart Go.Proofs.YtclcfjejpogdlaaGreat.Ca
set_option linter.unusedVariables false
set_option linter.unusedSimpArgs false
set_option maxRecDepth 8000
set_option maxHeartbeats 4000000
theorem bless : ∀ {a b : List Nat}, okB a → okB b → Op.bytesLess (a.map UInt8.ofNat) (b.map UInt8.ofNat) = bLt a b
  | [], [], _, _ => rfl
  | _ :: _, [], _, _ => rfl
  | [], _ :: _, _, _ => rfl
  | x :: a, y :: b, ha, hb => by
    have hx := ha x List.mem_cons_self
    have hy := hb y List.mem_cons_self
    have ih := bless (a := a) (b := b) (fun c hc => ha c (List.mem_cons_of_mem _ hc)) (fun c hc => hb c (List.mem_cons_of_mem _ hc))
    rw [List.map_cons, List.map_cons, Op.bytesLess, ih, bLt]
    by_cases e : x = y
    · subst e
      rw [if_pos rfl]
      have h1 : decide (UInt8.ofNat x < UInt8.ofNat x) = false := decide_eq_false (by rw [u8_lt hx hx]; omega)
      simp [h1]
    · rw [if_neg e]
      have h1 : (UInt8.ofNat x == UInt8.ofNat y) = false := by
        rw [Bool.eq_false_iff]
        intro q
        exact e ((u8_eq hx hy).1 (by simpa using q))
      have h2 : decide (UInt8.ofNat x < UInt8.ofNat y) = decide (x < y) := decide_eq_decide.2 (u8_lt hx hy)
      rw [h1, h2]; simp
theorem str_list (a : List Nat) : (strOf a).toList = a.map UInt8.ofNat := by
  rw [ByteArray.toList_eq]; simp [strOf]
/-- texts compared: not below -/
theorem lop_sge {C : Ctx} {o : Oper} {σ : St} {t t' : TypeId} {x y : Operand} {sz by_ : Nat} {a b : List Nat} (ho : o.op = .binOp .geq t x y t') (hT : TI C.P t .string sz by_) (hx : σ.look x = .p (.v (.string (strOf a)))) (hy : σ.look y = .p (.v (.string (strOf b)))) (ha : okB a) (hb : okB b) (hd : dOk C o.dst = true) :
    LOp C o σ ⟨.p (.v (.bool (!bLt a b))), []⟩ (fun _ => false) :=
  lop_bin ho hx hy (fun w => by
    obtain ⟨d, hdd, hk⟩ := hT.undd
    have : d = .string := by cases d <;> simp [TK.of] at hk; rfl
    subst this
    have e : (eqGuard .geq t x y (.string (strOf a)) (.string (strOf b))).run C.P w = .ok () w := by unfold eqGuard; simp [pure]
    simp only [Sem.run_bind, e, Result.andThen_ok]
    rw [binOp_string_geq, str_list, str_list, bless ha hb]; rfl) rfl hd
theorem map_of {row : List PVal} {ds : List AC} (h : All2 (fun (p : PVal) (c : AC) => AC.p p = c) row ds) : row.map AC.p = ds := by
  refine List.ext_getElem (by simp [h.1]) fun i h1 h2 => ?_
  have h3 : i < row.length := by simpa using h1
  have := h.2 i row[i] ds[i] (by simp [h3]) (by simp [h2])
  simpa using this
theorem lop_ld_atn {C : Ctx} {o : Oper} {σ : St} {T : TypeId} {x : Operand} {k : TK} {sz by_ : Nat} {row : List PVal} {ds : List AC} (ho : o.op = .load T x) (hT : TI C.P T k sz by_) (hx : σ.look x = .p (.at_ row)) (hk : k.agg = true) (h0 : 0 < sz) (hs : row.length = sz) (hds : All2 (fun (p : PVal) (c : AC) => AC.p p = c) row ds) (hd : dOk C o.dst = true) : LOp C o σ ⟨.a ds, []⟩ (fun _ => false) := by
  subst hs
  have := lop_load_at (o := o) ho hx hk h0 (by simp) hd
  rw [List.take_length, map_of hds] at this
  exact this
/-- all cells of a variable but the first one -/
theorem lop_ld_t9 {C : Ctx} {o : Oper} {σ : St} {T : TypeId} {x : Operand} {k : TK} {sz by_ : Nat} {ob g n : Nat} {ty : TypeId} {c0 c1 c2 c3 c4 c5 c6 c7 c8 c9 : AC} (ho : o.op = .load T x) (hT : TI C.P T k sz by_) (hx : σ.look x = .o (.ptr ob g 1)) (hm : σ.mem ob = (n, some (.box ty [c0, c1, c2, c3, c4, c5, c6, c7, c8, c9]))) (hn : n = g + 1)
    (hk : k.agg = true) (hs : sz = 9) (hd : dOk C o.dst = true) : LOp C o σ ⟨.a [c1, c2, c3, c4, c5, c6, c7, c8, c9], []⟩ (fun y => y == ob) := by
  subst hs; exact lop_load_box (o := o) ho hx hm hn hk (by simp) hd
/-- a key's cart, as a row -/
abbrev kR (k : Kd) : List PVal := [.v (.string (strOf k.1)), .k .u64 (k.2.1.getD 0 default), .k .u64 (k.2.1.getD 1 default), .k .u64 (k.2.1.getD 2 default), .k .u64 (k.2.1.getD 3 default), .k .u64 (k.2.1.getD 4 default), .k .u64 (k.2.1.getD 5 default), .k .u64 (k.2.1.getD 6 default), .k .u64 (k.2.1.getD 7 default), .sl 4 (k.2.2.map eR) false]
abbrev kL (k : Kd) : List AC := [.p (.v (.string (strOf k.1))), .p (.k .u64 (k.2.1.getD 0 default)), .p (.k .u64 (k.2.1.getD 1 default)), .p (.k .u64 (k.2.1.getD 2 default)), .p (.k .u64 (k.2.1.getD 3 default)), .p (.k .u64 (k.2.1.getD 4 default)), .p (.k .u64 (k.2.1.getD 5 default)), .p (.k .u64 (k.2.1.getD 6 default)), .p (.k .u64 (k.2.1.getD 7 default)), .p (.sl 4 (k.2.2.map eR) false)]
/-- what Go can hold -/
structure KdIn (k : Kd) : Prop where
  key : okB k.1
  len : k.1.length ≤ 9223372036854775807
  vec : vecOk k.2.1
  few : k.2.2.length ≤ 1000000000
namespace W9
theorem lopC {C : Ctx} {o : Oper} {σ : St} {e : Eff} {ro : Nat → Bool} (h : LOp C o σ e ro := by
    first | (apply lop_sge; (focus rfl); (focus exact inferInstance); (focus rfl); (focus rfl); (focus assumption); (focus assumption); (focus rfl)) | (apply lop_len_sb; (focus rfl); (focus exact inferInstance); (focus rfl); (focus rfl)) | (apply gLoad; (focus rfl); apply lop_ld_t9; (focus rfl); (focus exact inferInstance); (focus rfl); (focus rfl); (focus rfl); (focus rfl); (focus rfl); (focus rfl)) | (apply gLoad; (focus rfl); apply lop_ld_atn; (focus rfl); (focus exact inferInstance); (focus rfl); (focus rfl); (focus decide); (focus rfl); (focus repeat' (first | exact All2.nil | (apply All2.cons; (focus rfl)))); (focus rfl)) | exact W8.lopC | fail) : LOp C o σ e ro := h
section steps
variable {C : Ctx} {ops : Array Oper} {o : Oper} {rest : List Oper} {K : St → Prop} {σ : St} {e : Eff} {ro : Nat → Bool} {W : List (Nat × Nat)} {i : Nat}
theorem rnC {d : Nat} (hk : RunN C ops rest K (e.app (some d) σ)) (hg : Guard ops σ o true := by first | exact gd_n rfl rfl | exact gd_t rfl rfl rfl rfl | exact gd_t rfl rfl rfl (by assumption)) (hd : o.dst = some d := by rfl) (h : LOp C o σ e ro := by exact lopC) : RunN C ops (o :: rest) K σ := rn_any hg hd h hk
theorem rkC {d : Nat} (hk : RunK C ops W (i + 1) rest K (e.app (some d) σ)) (hg : Guard ops σ o true := by first | exact gd_n rfl rfl | exact gd_t rfl rfl rfl rfl | exact gd_t rfl rfl rfl (by assumption)) (hd' : o.dst = some d := by rfl) (hd : dOk C o.dst = true := by rfl) (h : LOp C o σ e ro := by exact lopC)
    (hro : ∀ x, ro x = true → okObj ops W i x = true := by first | exact fun _ => ro_none | exact ro_one rfl | exact ro_k1 rfl | exact ro_one (by kernel_rfl) | exact ro_k1 (by kernel_rfl) | exact ro_kIn (by decide)) (hob : ∀ p ∈ e.obj, (i, p.1) ∈ W := by first | exact ob_none | exact ob_one (by decide) | decide) : RunK C ops W i (o :: rest) K σ := rk_wr hg hd' hd h hro hob hk
end steps
end W9
open W9
end Go.Proofs.YtclcfjejpogdlaaGreat.Wi
namespace Go.Proofs.YtclcfjejpogdlaaGreat.Ca
open Go Go.RowKit Go.Aw Go.Aw.Cart Go.Aw.Ord Go.Sort
set_option linter.unusedVariables false
set_option linter.unusedSimpArgs false
set_option maxRecDepth 8000
set_option maxHeartbeats 4000000
theorem great_w (v : List Int) (l : List Ent) (ex : Bool) : PCall Tryz.prog 77 [cV v l ex] (.p (.b (decide (60 < (l.length : Int))))) := by
  refine pcall_of Tryz.func77 rfl (fun w0 F S0 M0 => ?_)
  repeat' (first | refine rnY ?_ | refine rnSQ ?_ | refine rnG ?_ | refine rnU ?_ | ((fail_if_success (refine rnKn ?_)); refine rnP ?_ ?_ <;> (intro hq; try (have hq' := hq; simp only [hqs] at hq'))) | refine rkY ?_ | refine rkSQ ?_ | refine rkF ?_ | refine rkU ?_ | ((fail_if_success (refine rkKn ?_)); refine rkP ?_ ?_ <;> (intro hq; try (have hq' := hq; simp only [hqs] at hq'))) | refine stp ?_ | refine aws_draws [] mixed (by kernel_rfl) ?_ | refine ifT ?_ | refine ifF ?_ | (refine ifQ ?_ ?_ <;> (try (intro hn))) | (refine ifB ?_ ?_ <;> (intro hq; try (have hq' := hq; simp only [hqs] at hq'))))
  exact rt1 rfl rfl finS_p rfl
instance {v : List Int} {l : List Ent} {ex : Bool} : PC Tryz.prog 77 [cV v l ex] True (.p (.b (decide (60 < (l.length : Int))))) := ⟨fun _ => great_w v l ex⟩
namespace A
end A
open A
end Go.Proofs.YtclcfjejpogdlaaGreat.Ca
