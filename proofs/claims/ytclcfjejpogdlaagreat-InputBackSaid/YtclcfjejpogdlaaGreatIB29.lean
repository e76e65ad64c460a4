/- rings: the point of some bytes, the program's and the reference's; keys: which may be, their points, parts and leaves; buckets in plain Lean; buckets: a list of keyed carts without some of them, in place; THE ABSTRACT WALK, part 30: own arrays whose elements are own slices. Nothing here speaks of a program.; buckets: what stands in buckets, and all buckets of a part; Trees of digests in plain Lean: 21 rows of 32 bytes in one flat list. Nothing here speaks of a program. -/
import Derived.Test.YtclcfjejpogdlaaGreatIB13
import Derived.Test.YtclcfjejpogdlaaGreatIB17
import Derived.Test.YtclcfjejpogdlaaGreatIB28
import Derived.Test.YtclcfjejpogdlaaGreatIB21
import Derived.Test.YtclcfjejpogdlaaGreatIB22
import Derived.Test.YtclcfjejpogdlaaGreatIB24
import Derived.Test.YtclcfjejpogdlaaGreatIB18
import Derived.Test.YtclcfjejpogdlaaGreatIB26
import Derived.Test.YtclcfjejpogdlaaGreatIB05
namespace Go.Proofs.YtclcfjejpogdlaaGreat.Rg
open Go Go.RowKit Go.Aw Go.Aw.Sha Go.Aw.Cart Go.Aw.Ord Go.Sort Go.Proofs.YtclcfjejpogdlaaGreat.Ca Go.Proofs.YtclcfjejpogdlaaGreat.Sh
set_option linter.unusedVariables false
set_option linter.unusedSimpArgs false
set_option maxRecDepth 8000
set_option maxHeartbeats 4000000
attribute [local irreducible] sum
/-- the first bytes as a number, the greatest ahead -/
def pv (S : List Nat) : Nat → Nat
  | 0 => 0
  | j + 1 => pv S j * 256 + S.getD j default
def pointF (b : List Nat) : Nat := pv (sum b) 8
theorem sum_okB (b : List Nat) : okB (sum b) := by
  unfold sum digest
  intro x hx
  obtain ⟨i, _, rfl⟩ := List.mem_map.1 hx
  exact Nat.mod_lt _ (by decide)
theorem getD_ok {S : List Nat} (h : okB S) (j : Nat) : S.getD j default < 256 := by
  rw [List.getD_eq_getElem?_getD]
  cases hj : S[j]? with
  | none => exact (by decide : 0 < 256)
  | some x => exact h x (List.mem_of_getElem? hj)
theorem pv_lt {S : List Nat} (h : okB S) : ∀ j, pv S j < 256 ^ j
  | 0 => Nat.one_pos
  | j + 1 => by
    have := pv_lt h j
    have := getD_ok h j
    rw [pv, Nat.pow_succ]; omega
theorem pv_fit {S : List Nat} (h : okB S) {j : Nat} (hj : j ≤ 8) : pv S j < 18446744073709551616 :=
  Nat.lt_of_lt_of_le (pv_lt h j) (show 256 ^ j ≤ 256 ^ 8 from Nat.pow_le_pow_right (by decide) hj)
/-- one byte more, as the machine does it -/
theorem byte_in {a c M : Nat} (ha : a * 256 + c < M) (hc : c < 256) : ((a * 256) % M % M ||| c % M % M) = a * 256 + c := by
  have h1 : c < M := by omega
  have h2 : a * 256 < M := Nat.lt_of_le_of_lt (Nat.le_add_right _ c) ha
  rw [Nat.mod_eq_of_lt h1, Nat.mod_eq_of_lt h1, Nat.mod_eq_of_lt h2, Nat.mod_eq_of_lt h2]
  have := Nat.shiftLeft_add_eq_or_of_lt (i := 8) (show c < 2 ^ 8 from hc) a
  rw [Nat.shiftLeft_eq] at this
  exact this.symm
/-- an own array's first places as a slice -/
theorem lop_sl_arh {C : Ctx} {o : Oper} {σ : St} {T e : TypeId} {x y : Operand} {n sz by_ : Nat} {ke : TK} {sze be : Nat} {ob g off : Nat} {k : IntKind} {m : Int} (ho : o.op = .slice T x none (some y) none) (hT : TI C.P T (.array n e) sz by_) (he : TI C.P e ke sze be) (hx : σ.look x = .o (.ptr ob g off)) (hy : σ.look y = .p (.v (.int k m))) (h0 : 0 ≤ m) (hm : m ≤ n) (hd : dOk C o.dst = true) :
    LOp C o σ ⟨.o (.asl ob g off m.toNat n), []⟩ (fun _ => false) :=
  lop_val hd fun τ a w G hl hm' h => by
    obtain ⟨b, c, h1, h2⟩ := look_of h ((hl x (by simp [ho, Op.operands])).trans hx)
    have e2 := val_of h ((hl y (by simp [ho, Op.operands])).trans hy)
    obtain ⟨d, hdd, hk⟩ := hT.undd
    have : d = .array n e := by cases d <;> simp [TK.of] at hk; rw [hk.1, hk.2]
    subst this
    refine ⟨.slice (some ⟨b, off, none⟩) m.toNat n, ?_, b, c, h1, rfl⟩
    simp [execOp, ho, h2, e2, Instr.sliceAt, Instr.sureAddr, run_underlying hdd, Instr.sliceBounds, run_sb (y := n) h0 hm, he.run_sizeOf, Addr.add]
namespace P6
theorem lopC {C : Ctx} {o : Oper} {σ : St} {e : Eff} {ro : Nat → Bool} (h : LOp C o σ e ro := by
    first
      | exact lop_wadd' rfl rfl rfl (by with_reducible (first | rfl | exact lit_nat _ | exact ofn_nat _)) (by with_reducible (first | rfl | exact lit_nat _ | exact ofn_nat _)) rfl rfl
            | exact lop_wmul' rfl rfl rfl (by with_reducible (first | rfl | exact lit_nat _ | exact ofn_nat _)) (by with_reducible (first | rfl | exact lit_nat _ | exact ofn_nat _)) rfl rfl
            | exact lop_wsub' rfl rfl rfl (by with_reducible (first | rfl | exact lit_nat _ | exact ofn_nat _)) (by with_reducible (first | rfl | exact lit_nat _ | exact ofn_nat _)) rfl rfl
            | exact lop_wquo' rfl rfl rfl (by with_reducible (first | rfl | exact lit_nat _ | exact ofn_nat _)) (by with_reducible (first | rfl | exact lit_nat _ | exact ofn_nat _)) (by decide) rfl rfl
            | exact lop_wrem' rfl rfl rfl (by with_reducible (first | rfl | exact lit_nat _ | exact ofn_nat _)) (by with_reducible (first | rfl | exact lit_nat _ | exact ofn_nat _)) (by decide) rfl
            | exact lop_wand' rfl rfl rfl (by with_reducible (first | rfl | exact lit_nat _ | exact ofn_nat _)) (by with_reducible (first | rfl | exact lit_nat _ | exact ofn_nat _)) rfl rfl
            | exact lop_wor' rfl rfl rfl (by with_reducible (first | rfl | exact lit_nat _ | exact ofn_nat _)) (by with_reducible (first | rfl | exact lit_nat _ | exact ofn_nat _)) rfl rfl
            | exact lop_wxor' rfl rfl rfl (by with_reducible (first | rfl | exact lit_nat _ | exact ofn_nat _)) (by with_reducible (first | rfl | exact lit_nat _ | exact ofn_nat _)) rfl rfl
            | exact lop_wnot' rfl rfl (by with_reducible (first | rfl | exact lit_nat _ | exact ofn_nat _)) rfl rfl
            | exact lop_wshr' rfl rfl (by with_reducible (first | rfl | exact lit_nat _ | exact ofn_nat _)) rfl (by first | decide | omega) (by first | decide | (simp only [IntKind.bits]; omega)) rfl
            | exact lop_wshl' rfl rfl (by with_reducible (first | rfl | exact lit_nat _ | exact ofn_nat _)) rfl (by first | decide | omega) (by first | decide | (simp only [IntKind.bits]; omega)) rfl rfl
            | (apply lop_wconv'; (focus rfl); (focus exact inferInstance); (focus exact inferInstance); (focus rfl); (focus exact (by with_reducible (first | rfl | exact lit_nat _ | exact ofn_nat _))); (focus rfl); (focus rfl))
      | (apply lop_sl_arh; (focus rfl); (focus exact inferInstance); (focus exact inferInstance); (focus rfl); (focus rfl); (focus decide); (focus decide); (focus rfl))
      | exact lop_len_asl rfl rfl rfl
      | exact lopQ
      | fail) : LOp C o σ e ro := h
section steps
variable {C : Ctx} {ops : Array Oper} {o : Oper} {rest : List Oper} {K : St → Prop} {σ : St} {e : Eff} {ro : Nat → Bool} {W : List (Nat × Nat)} {i : Nat}
theorem rnC {d : Nat} (hk : RunN C ops rest K (e.app (some d) σ)) (hg : Guard ops σ o true := by first | exact gd_n rfl rfl | exact gd_t rfl rfl rfl rfl | exact gd_t rfl rfl rfl (by assumption)) (hd : o.dst = some d := by rfl) (h : LOp C o σ e ro := by exact lopC) : RunN C ops (o :: rest) K σ := rn_any hg hd h hk
end steps
end P6
open P6
theorem shaPoint_w (b : List Nat) (ex : Bool) (h : b.length ≤ 500000000) : PCall Tryz.prog 259 [bytesN b ex] (.p (.k .u64 (pointF b : Int))) := by
  refine pcall_of Tryz.func259 rfl (fun w0 F S0 M0 => ?_)
  obtain ⟨S, hS⟩ : ∃ S, S = sum b := ⟨_, rfl⟩
  have hSl : S.length = 32 := by rw [hS]; exact sum_len b
  have hSo : okB S := by rw [hS]; exact sum_okB b
  haveI : PC Tryz.prog 19 [.p (.sl 1 [[bytesP b ex]] true)] True (.a (S.map bc)) := ⟨fun _ => by rw [hS]; exact sum1_c b ex true h⟩
  rw [show pointF b = pv S 8 by rw [hS]; rfl]
  clear hS
  repeat' (first | refine rnC ?_ | refine rnSB ?_ | refine rnG ?_ | refine rnU ?_ | ((fail_if_success (refine rnKn ?_)); refine rnP ?_ ?_ <;> (intro hq; try (have hq' := hq; simp only [hqs] at hq'))) | refine rkC ?_ | refine rkSB ?_ | refine rkF ?_ | refine rkU ?_ | ((fail_if_success (refine rkKn ?_)); refine rkP ?_ ?_ <;> (intro hq; try (have hq' := hq; simp only [hqs] at hq'))) | refine stp ?_ | refine ifT ?_ | refine ifF ?_ | (refine ifQ ?_ ?_ <;> (try (intro hn))) | (refine ifB ?_ ?_ <;> (intro hq; try (have hq' := hq; simp only [hqs] at hq'))))
  refine aws_loopS [3, 6, 12, 13, 14, 15, 16, 17, 18, 19, 20, 21] [] (fun (i : Nat) => [(12, .p (.i i)), (3, .p (.k .u64 (pv S i : Int)))]) (fun _ => []) (fun i => i ≤ 8) (fun i => 8 - i) 0 (Nat.zero_le _) (by exact knA) (by exact knA) ?_
  rintro i β γ hi
  by_cases hil : i < 8
  · have d1 : decide ((i : Int) < 8) = true := decide_eq_true (by omega)
    as_aux_lemma =>
      repeat' (first | refine rnC ?_ | refine rnSB ?_ | refine rnG ?_ | refine rnU ?_ | ((fail_if_success (refine rnKn ?_)); refine rnP ?_ ?_ <;> (intro hq; try (have hq' := hq; simp only [hqs] at hq'))) | refine rkC ?_ | refine rkSB ?_ | refine rkF ?_ | refine rkU ?_ | ((fail_if_success (refine rkKn ?_)); refine rkP ?_ ?_ <;> (intro hq; try (have hq' := hq; simp only [hqs] at hq'))) | refine stp ?_ | refine ifT ?_ | refine ifF ?_ | (refine ifQ ?_ ?_ <;> (try (intro hn))) | (refine ifB ?_ ?_ <;> (intro hq; try (have hq' := hq; simp only [hqs] at hq'))))
      refine ⟨i + 1, _, by omega, (by show i + 1 ≤ 8; omega), .refl, ?_⟩
      have e : pv S (i + 1) = (pv S i * 2 ^ (8 : Int).toNat) % md .u64 % md .u64 ||| S.getD (i : Int).toNat default % md .u64 % md .u64 := by
        rw [pv, Int.toNat_natCast]
        exact (byte_in (M := md .u64) (by have := pv_fit hSo (show i + 1 ≤ 8 by omega); rwa [pv] at this) (getD_ok hSo i)).symm
      try dsimp only
      rw [e]
      exact frA
  · have d1 : decide ((i : Int) < 8) = false := decide_eq_false (by omega)
    obtain rfl : i = 8 := by omega
    as_aux_lemma =>
      repeat' (first | refine rnC ?_ | refine rnSB ?_ | refine rnG ?_ | refine rnU ?_ | ((fail_if_success (refine rnKn ?_)); refine rnP ?_ ?_ <;> (intro hq; try (have hq' := hq; simp only [hqs] at hq'))) | refine rkC ?_ | refine rkSB ?_ | refine rkF ?_ | refine rkU ?_ | ((fail_if_success (refine rkKn ?_)); refine rkP ?_ ?_ <;> (intro hq; try (have hq' := hq; simp only [hqs] at hq'))) | refine stp ?_ | refine ifT ?_ | refine ifF ?_ | (refine ifQ ?_ ?_ <;> (try (intro hn))) | (refine ifB ?_ ?_ <;> (intro hq; try (have hq' := hq; simp only [hqs] at hq'))))
      exact rt1 rfl rfl finS_p rfl
end Go.Proofs.YtclcfjejpogdlaaGreat.Rg
namespace Go.Proofs.YtclcfjejpogdlaaGreat.Rg
open Go Go.RowKit Go.Aw Go.Aw.Sha Go.Aw.Cart Go.Aw.Ord Go.Sort Go.Proofs.YtclcfjejpogdlaaGreat.Ca Go.Proofs.YtclcfjejpogdlaaGreat.Sh
set_option linter.unusedVariables false
set_option linter.unusedSimpArgs false
set_option maxRecDepth 8000
set_option maxHeartbeats 4000000
attribute [local irreducible] sum
abbrev strV (k : List Nat) : AV := .p (.v (.string (strOf k)))
def byteOk (c : Nat) : Bool := decide ((97 ≤ c ∧ c ≤ 122) ∨ (48 ≤ c ∧ c ≤ 57) ∨ c = 45)
def keyR (k : List Nat) : Bool := decide ((1 ≤ k.length ∧ k.length ≤ 20) ∧ ∀ c ∈ k, byteOk c = true)
def partF (k : List Nat) : Nat := pointF k / 2305843009213693952
def leafF (k : List Nat) : Nat := pointF k / 144115188075855872 % 16
theorem point_lt (k : List Nat) : pointF k < 18446744073709551616 := pv_fit (sum_okB k) (Nat.le_refl 8)
theorem all_get {k : List Nat} : (∀ c ∈ k, byteOk c = true) ↔ ∀ j, j < k.length → byteOk (k.getD j default) = true := by
  constructor
  · intro h j hj
    exact h _ (by rw [getD_at hj]; exact List.getElem_mem _)
  · intro h c hc
    obtain ⟨j, hj, rfl⟩ := getD_mem hc
    exact h j hj
namespace Y1
theorem lopC {C : Ctx} {o : Oper} {σ : St} {e : Eff} {ro : Nat → Bool} (h : LOp C o σ e ro := by
    first | (apply lop_len_sb; (focus rfl); (focus exact inferInstance); (focus rfl); (focus rfl)) | (apply lop_ix_sb; (focus rfl); (focus exact inferInstance); (focus rfl); (focus assumption); (focus rfl); (focus omega); (focus omega); (focus rfl)) | exact P6.lopC | fail) : LOp C o σ e ro := h
section steps
variable {C : Ctx} {ops : Array Oper} {o : Oper} {rest : List Oper} {K : St → Prop} {σ : St} {e : Eff} {ro : Nat → Bool} {W : List (Nat × Nat)} {i : Nat}
theorem rnC {d : Nat} (hk : RunN C ops rest K (e.app (some d) σ)) (hg : Guard ops σ o true := by first | exact gd_n rfl rfl | exact gd_t rfl rfl rfl rfl | exact gd_t rfl rfl rfl (by assumption)) (hd : o.dst = some d := by rfl) (h : LOp C o σ e ro := by exact lopC) : RunN C ops (o :: rest) K σ := rn_any hg hd h hk
end steps
end Y1
open Y1
theorem isByte_w (c : Nat) : PCall Tryz.prog 204 [.p (.k .u8 (c : Int))] (.p (.b (byteOk c))) := by
  refine pcall_of Tryz.func204 rfl (fun w0 F S0 M0 => ?_)
  unfold byteOk
  as_aux_lemma =>
    repeat' (first | refine rnC ?_ | refine rnSB ?_ | refine rnG ?_ | refine rnU ?_ | ((fail_if_success (refine rnKn ?_)); refine rnP ?_ ?_ <;> (intro hq; try (have hq' := hq; simp only [hqs] at hq'))) | refine rkC ?_ | refine rkSB ?_ | refine rkF ?_ | refine rkU ?_ | ((fail_if_success (refine rkKn ?_)); refine rkP ?_ ?_ <;> (intro hq; try (have hq' := hq; simp only [hqs] at hq'))) | refine stp ?_ | refine aws_draws [] mixed (by kernel_rfl) ?_ | refine ifT ?_ | refine ifF ?_ | (refine ifQ ?_ ?_ <;> (try (intro hn))) | (refine ifB ?_ ?_ <;> (intro hq; try (have hq' := hq; simp only [hqs] at hq'))))
    all_goals refine rt1 rfl rfl finS_p (rb ?_)
    all_goals first | exact decide_eq_decide.2 (by omega) | exact decide_eq_true (by omega) | exact decide_eq_false (by omega)
instance isByte_i {c : Nat} : PC Tryz.prog 204 [.p (.k .u8 (c : Int))] True (.p (.b (byteOk c))) := ⟨fun _ => isByte_w c⟩
theorem keyRightL_w (k : List Nat) (hk : okB k) (hl : k.length ≤ 9223372036854775807) : PCall Tryz.prog 109 [strV k] (.p (.b (keyR k))) := by
  refine pcall_of Tryz.func109 rfl (fun w0 F S0 M0 => ?_)
  unfold keyR
  rw [decide_eq_decide.2 (and_congr Iff.rfl all_get)]
  repeat' (first | refine rnC ?_ | refine rnSB ?_ | refine rnG ?_ | refine rnU ?_ | ((fail_if_success (refine rnKn ?_)); refine rnP ?_ ?_ <;> (intro hq; try (have hq' := hq; simp only [hqs] at hq'))) | refine rkC ?_ | refine rkSB ?_ | refine rkF ?_ | refine rkU ?_ | ((fail_if_success (refine rkKn ?_)); refine rkP ?_ ?_ <;> (intro hq; try (have hq' := hq; simp only [hqs] at hq'))) | refine stp ?_ | refine ifT ?_ | refine ifF ?_ | (refine ifQ ?_ ?_ <;> (try (intro hn))) | (refine ifB ?_ ?_ <;> (intro hq; try (have hq' := hq; simp only [hqs] at hq'))))
  refine aws_loopS [2, 3, 6, 7, 8, 9, 10, 11, 12, 13, 14, 15, 16, 17, 18] [] (fun (i : Nat) => [(6, .p (.i i))]) (fun _ => []) (fun i => i ≤ k.length ∧ i ≤ 20 ∧ ∀ j, j < i → byteOk (k.getD j default) = true) (fun i => k.length - i) 0 ⟨Nat.zero_le _, Nat.zero_le _, fun j hj => absurd hj (Nat.not_lt_zero _)⟩ (by exact knA) (by exact knA) ?_
  rintro i β γ ⟨hi, hi2, hx⟩
  by_cases hil : i < k.length
  · have d1 : decide ((i : Int) < (k.length : Int)) = true := decide_eq_true (by omega)
    have ei : (i : Int).toNat = i := Int.toNat_natCast i
    by_cases h20 : 20 ≤ i
    · have d2 : decide (20 ≤ (i : Int)) = true := decide_eq_true (by omega)
      rw [decide_eq_false (fun q => by omega)]
      as_aux_lemma =>
        repeat' (first | refine rnC ?_ | refine rnSB ?_ | refine rnG ?_ | refine rnU ?_ | ((fail_if_success (refine rnKn ?_)); refine rnP ?_ ?_ <;> (intro hq; try (have hq' := hq; simp only [hqs] at hq'))) | refine rkC ?_ | refine rkSB ?_ | refine rkF ?_ | refine rkU ?_ | ((fail_if_success (refine rkKn ?_)); refine rkP ?_ ?_ <;> (intro hq; try (have hq' := hq; simp only [hqs] at hq'))) | refine stp ?_ | refine ifT ?_ | refine ifF ?_ | (refine ifQ ?_ ?_ <;> (try (intro hn))) | (refine ifB ?_ ?_ <;> (intro hq; try (have hq' := hq; simp only [hqs] at hq'))))
        exact rt1 rfl rfl finS_p rfl
    · have d2 : decide (20 ≤ (i : Int)) = false := decide_eq_false (by omega)
      cases hb : byteOk (k.getD (i : Int).toNat default) with
      | true =>
        have d3 : (!byteOk (k.getD (i : Int).toNat default)) = false := by rw [hb]; rfl
        rw [ei] at hb
        repeat' (first | refine rnC ?_ | refine rnSB ?_ | refine rnG ?_ | refine rnU ?_ | ((fail_if_success (refine rnKn ?_)); refine rnP ?_ ?_ <;> (intro hq; try (have hq' := hq; simp only [hqs] at hq'))) | refine rkC ?_ | refine rkSB ?_ | refine rkF ?_ | refine rkU ?_ | ((fail_if_success (refine rkKn ?_)); refine rkP ?_ ?_ <;> (intro hq; try (have hq' := hq; simp only [hqs] at hq'))) | refine stp ?_ | refine ifT ?_ | refine ifF ?_ | (refine ifQ ?_ ?_ <;> (try (intro hn))) | (refine ifB ?_ ?_ <;> (intro hq; try (have hq' := hq; simp only [hqs] at hq'))))
        refine ⟨i + 1, _, by omega, ⟨by omega, by omega, fun j hj => ?_⟩, .refl, by exact frA⟩
        by_cases e : j = i
        · rw [e]; exact hb
        · exact hx j (by omega)
      | false =>
        have d3 : (!byteOk (k.getD (i : Int).toNat default)) = true := by rw [hb]; rfl
        rw [ei] at hb
        rw [decide_eq_false (fun q => by have := q.2 i hil; rw [hb] at this; cases this)]
        as_aux_lemma =>
          repeat' (first | refine rnC ?_ | refine rnSB ?_ | refine rnG ?_ | refine rnU ?_ | ((fail_if_success (refine rnKn ?_)); refine rnP ?_ ?_ <;> (intro hq; try (have hq' := hq; simp only [hqs] at hq'))) | refine rkC ?_ | refine rkSB ?_ | refine rkF ?_ | refine rkU ?_ | ((fail_if_success (refine rkKn ?_)); refine rkP ?_ ?_ <;> (intro hq; try (have hq' := hq; simp only [hqs] at hq'))) | refine stp ?_ | refine ifT ?_ | refine ifF ?_ | (refine ifQ ?_ ?_ <;> (try (intro hn))) | (refine ifB ?_ ?_ <;> (intro hq; try (have hq' := hq; simp only [hqs] at hq'))))
          exact rt1 rfl rfl finS_p rfl
  · have d1 : decide ((i : Int) < (k.length : Int)) = false := decide_eq_false (by omega)
    rw [decide_eq_decide.2 (show ((1 ≤ k.length ∧ k.length ≤ 20) ∧ ∀ j, j < k.length → byteOk (k.getD j default) = true) ↔ 0 < (k.length : Int) from ⟨fun q => by omega, fun q => ⟨by omega, fun j hj => hx j (by omega)⟩⟩)]
    as_aux_lemma =>
      repeat' (first | refine rnC ?_ | refine rnSB ?_ | refine rnG ?_ | refine rnU ?_ | ((fail_if_success (refine rnKn ?_)); refine rnP ?_ ?_ <;> (intro hq; try (have hq' := hq; simp only [hqs] at hq'))) | refine rkC ?_ | refine rkSB ?_ | refine rkF ?_ | refine rkU ?_ | ((fail_if_success (refine rkKn ?_)); refine rkP ?_ ?_ <;> (intro hq; try (have hq' := hq; simp only [hqs] at hq'))) | refine stp ?_ | refine ifT ?_ | refine ifF ?_ | (refine ifQ ?_ ?_ <;> (try (intro hn))) | (refine ifB ?_ ?_ <;> (intro hq; try (have hq' := hq; simp only [hqs] at hq'))))
      exact rt1 rfl rfl finS_p rfl
theorem keyRight_w (k : List Nat) (hk : okB k) (hl : k.length ≤ 1000000) : PCall Tryz.prog 109 [strV k] (.p (.b (keyR k))) := keyRightL_w k hk (by omega)
theorem keyPoint_w (k : List Nat) (hk : okB k) (hl : k.length ≤ 1000000) : PCall Tryz.prog 227 [strV k] (.p (.k .u64 (pointF k : Int))) := by
  refine pcall_of Tryz.func227 rfl (fun w0 F S0 M0 => ?_)
  haveI : ∀ ex, PC Tryz.prog 259 [bytesN k ex] True (.p (.k .u64 (pointF k : Int))) := fun ex => ⟨fun _ => shaPoint_w k ex (by omega)⟩
  as_aux_lemma =>
    repeat' (first | refine rnC ?_ | refine rnSB ?_ | refine rnG ?_ | refine rnU ?_ | ((fail_if_success (refine rnKn ?_)); refine rnP ?_ ?_ <;> (intro hq; try (have hq' := hq; simp only [hqs] at hq'))) | refine rkC ?_ | refine rkSB ?_ | refine rkF ?_ | refine rkU ?_ | ((fail_if_success (refine rkKn ?_)); refine rkP ?_ ?_ <;> (intro hq; try (have hq' := hq; simp only [hqs] at hq'))) | refine stp ?_ | refine ifT ?_ | refine ifF ?_ | (refine ifQ ?_ ?_ <;> (try (intro hn))) | (refine ifB ?_ ?_ <;> (intro hq; try (have hq' := hq; simp only [hqs] at hq'))))
    exact rt1 rfl rfl finS_p rfl
theorem keyAt_w (k : List Nat) (hk : okB k) (hl : k.length ≤ 1000000) : PCall Tryz.prog 177 [strV k] (.tup [.one (.p (.i (partF k : Int))), .one (.p (.i (leafF k : Int)))]) := by
  refine pcall_of Tryz.func177 rfl (fun w0 F S0 M0 => ?_)
  have hp := point_lt k
  unfold partF leafF
  obtain ⟨p, hP⟩ : ∃ p, p = pointF k := ⟨_, rfl⟩
  haveI : PC Tryz.prog 227 [strV k] True (.p (.k .u64 (p : Int))) := ⟨fun _ => by rw [hP]; exact keyPoint_w k hk hl⟩
  rw [← hP] at hp ⊢
  have e1 : IntKind.i64.wrap ((p / 2 ^ (61 : Int).toNat : Nat) : Int) = ((p / 2305843009213693952 : Nat) : Int) := by
    rw [show p / 2 ^ (61 : Int).toNat = p / 2305843009213693952 from rfl]
    exact IntWalk.i64_in _ (by omega)
  have e2 : IntKind.i64.wrap ((p / 2 ^ (57 : Int).toNat % md .u64 &&& 15 % md .u64 : Nat) : Int) = ((p / 144115188075855872 % 16 : Nat) : Int) := by
    have h1 : p / 2 ^ (57 : Int).toNat % md .u64 = p / 144115188075855872 := Nat.mod_eq_of_lt (show p / 144115188075855872 < 18446744073709551616 by omega)
    have h2 : 15 % md .u64 = 2 ^ 4 - 1 := rfl
    rw [h1, h2, Nat.and_two_pow_sub_one_eq_mod]
    exact IntWalk.i64_in _ (by omega)
  rw [← e1, ← e2]
  as_aux_lemma =>
    repeat' (first | refine rnC ?_ | refine rnSB ?_ | refine rnG ?_ | refine rnU ?_ | ((fail_if_success (refine rnKn ?_)); refine rnP ?_ ?_ <;> (intro hq; try (have hq' := hq; simp only [hqs] at hq'))) | refine rkC ?_ | refine rkSB ?_ | refine rkF ?_ | refine rkU ?_ | ((fail_if_success (refine rkKn ?_)); refine rkP ?_ ?_ <;> (intro hq; try (have hq' := hq; simp only [hqs] at hq'))) | refine stp ?_ | refine ifT ?_ | refine ifF ?_ | (refine ifQ ?_ ?_ <;> (try (intro hn))) | (refine ifB ?_ ?_ <;> (intro hq; try (have hq' := hq; simp only [hqs] at hq'))))
    exact rt2 rfl rfl finS_p rfl finS_p rfl
instance keyAt_i {k : List Nat} : PC Tryz.prog 177 [strV k] (okB k ∧ k.length ≤ 1000000) (.tup [.one (.p (.i (partF k : Int))), .one (.p (.i (leafF k : Int)))]) := ⟨fun h => keyAt_w k h.1 h.2⟩
theorem keyPart_w (k : List Nat) (hk : okB k) (hl : k.length ≤ 1000000) : PCall Tryz.prog 200 [strV k] (.p (.i (partF k : Int))) := by
  refine pcall_of Tryz.func200 rfl (fun w0 F S0 M0 => ?_)
  as_aux_lemma =>
    repeat' (first | refine rnC ?_ | refine rnSB ?_ | refine rnG ?_ | refine rnU ?_ | ((fail_if_success (refine rnKn ?_)); refine rnP ?_ ?_ <;> (intro hq; try (have hq' := hq; simp only [hqs] at hq'))) | refine rkC ?_ | refine rkSB ?_ | refine rkF ?_ | refine rkU ?_ | ((fail_if_success (refine rkKn ?_)); refine rkP ?_ ?_ <;> (intro hq; try (have hq' := hq; simp only [hqs] at hq'))) | refine stp ?_ | refine ifT ?_ | refine ifF ?_ | (refine ifQ ?_ ?_ <;> (try (intro hn))) | (refine ifB ?_ ?_ <;> (intro hq; try (have hq' := hq; simp only [hqs] at hq'))))
    exact rt1 rfl rfl finS_p rfl
end Go.Proofs.YtclcfjejpogdlaaGreat.Rg
namespace Go.Proofs.YtclcfjejpogdlaaGreat.Wi
open Go Go.RowKit Go.Aw Go.Aw.Cart Go.Proofs.YtclcfjejpogdlaaGreat.Ca Go.Proofs.YtclcfjejpogdlaaGreat.Rg
set_option linter.unusedVariables false
set_option linter.unusedSimpArgs false
end Go.Proofs.YtclcfjejpogdlaaGreat.Wi
namespace Go.Proofs.YtclcfjejpogdlaaGreat.Wi
open Go Go.RowKit Go.Aw Go.Aw.Cart Go.Proofs.YtclcfjejpogdlaaGreat.Ca
set_option linter.unusedVariables false
set_option linter.unusedSimpArgs false
set_option maxRecDepth 8000
set_option maxHeartbeats 4000000
namespace B1
theorem lopC {C : Ctx} {o : Oper} {σ : St} {e : Eff} {ro : Nat → Bool} (h : LOp C o σ e ro := by
    first | (apply lop_lend2; (focus rfl); (focus exact inferInstance); (focus rfl); (focus rfl); (focus rfl); (focus exact (List.length_map ..).symm); (focus first | exact lk_m1 rfl | exact lk_m2 rfl | exact lk_m3 rfl | exact lk_o rfl | exact lk_a2 rfl | exact lk_a3 rfl | exact lk_a4 rfl | exact lk_a1 rfl | exact lk_a5 rfl | exact lk_a6 rfl | exact lk_a7 rfl | exact lk_a8 rfl | exact lk_a rfl); (focus exact inferInstance); (focus exact inferInstance); (focus first | exact True.intro | assumption | rfl | omega | ((repeat' (first | assumption | refine And.intro ?_ ?_ | omega | rfl)); done) | fail); (focus exact RV.v); (focus rfl)) | exact WC.lopC | exact lopQ | fail) : LOp C o σ e ro := h
section steps
variable {C : Ctx} {ops : Array Oper} {o : Oper} {rest : List Oper} {K : St → Prop} {σ : St} {e : Eff} {ro : Nat → Bool} {W : List (Nat × Nat)} {i : Nat}
theorem rnC {d : Nat} (hk : RunN C ops rest K (e.app (some d) σ)) (hg : Guard ops σ o true := by first | exact gd_n rfl rfl | exact gd_t rfl rfl rfl rfl | exact gd_t rfl rfl rfl (by assumption)) (hd : o.dst = some d := by rfl) (h : LOp C o σ e ro := by exact lopC) : RunN C ops (o :: rest) K σ := rn_any hg hd h hk
end steps
end B1
open B1
end Go.Proofs.YtclcfjejpogdlaaGreat.Wi
namespace Go.Aw
open Go Go.RowKit
set_option linter.unusedVariables false
set_option linter.unusedSimpArgs false
/-- one element: an own slice's rows; or it was taken out -/
def cellH (X : Wd) (tyB es : Nat) (r : Option (List (List PVal))) (v : Value) (f : List Nat) : Prop :=
  match r with
  | some rows => ∃ m c, v = .slice (m.map fun b => (⟨b, 0, none⟩ : Addr)) rows.length c ∧ (MO.buf tyB es rows).holds Mu.none X (m, c) f
  | none => v.oneCell' = true ∧ f = []
theorem cellH.mono {x y : Wd} {tyB es : Nat} {r : Option (List (List PVal))} {v : Value} {f : List Nat} (hle : x.le y) (hf : ∀ k, k ∈ f → y.w.heap[k]? = x.w.heap[k]?) (h : cellH x tyB es r v f) : cellH y tyB es r v f := by
  cases r with
  | none => exact h
  | some rows => obtain ⟨m, c, h1, h2⟩ := h; exact ⟨m, c, h1, h2.mono (Mu.le.refl _) hle hf⟩
theorem cellH.one {X : Wd} {tyB es : Nat} {r : Option (List (List PVal))} {v : Value} {f : List Nat} (h : cellH X tyB es r v f) : v.oneCell' = true := by
  cases r with
  | none => exact h.1
  | some rows => obtain ⟨m, c, rfl, _⟩ := h; rfl
/-- one object becomes two: a part of its blocks is another object's from now on -/
theorem RelG.split {C : Ctx} {σ : St} {a : Act} {w : World} {G : Gh} (h : RelG C σ a w G) {o d n nd : Nat} {mo0 mod0 : Option MO} {moo mod : MO} {m : Option Nat × Nat} {fo fd : List Nat} (hne : d ≠ o) (ho : σ.mem o = (n, mo0)) (hd : σ.mem d = (nd, mod0))
    (hfo : ∀ b, b ∈ fo → b ∈ G.φ o) (hfd : ∀ b, b ∈ fd → b ∈ G.φ o) (hdis : ∀ b, b ∈ fo → b ∈ fd → False)
    (hO : ∃ g mm, n = g + 1 ∧ (G.μ o)[g]? = some mm ∧ moo.holds (fun x => if x = d then G.μ d ++ [m] else G.μ x) ⟨w, G.S⟩ mm fo) (hD : mod.holds (fun x => if x = d then G.μ d ++ [m] else G.μ x) ⟨w, G.S⟩ m fd) :
    RelG C ((σ.put d (nd + 1, some mod)).put o (n, some moo)) a w ⟨fun x => if x = d then G.μ d ++ [m] else G.μ x, G.S, fun x => if x = d then fd else if x = o then fo else G.φ x⟩ := by
  have hlen : (G.μ d).length = nd := by have := h.gens d; rw [hd] at this; exact this
  have hmu : G.μ.le (fun x => if x = d then G.μ d ++ [m] else G.μ x) := mu_le
  have hfp : ∀ {x k}, k ∈ (if x = d then fd else if x = o then fo else G.φ x) → k ∈ G.φ (if x = d then o else x) ∧ (x = d → k ∈ fd) ∧ (x = o → k ∈ fo) := fun {x k} hk => by
    by_cases hx : x = d
    · rw [if_pos hx] at hk
      exact ⟨by rw [if_pos hx]; exact hfd k hk, fun _ => hk, fun e => absurd (hx.symm.trans e) hne⟩
    · rw [if_neg hx] at hk
      rw [if_neg hx]
      by_cases hxo : x = o
      · rw [if_pos hxo] at hk
        exact ⟨by rw [hxo]; exact hfo k hk, fun e => absurd e hx, fun _ => hk⟩
      · rw [if_neg hxo] at hk
        exact ⟨hk, fun e => absurd e hx, fun e => absurd e hxo⟩
  exact {
    size := h.size
    defers := fun e he => by
      obtain ⟨b', rfl, h1, h2, h3, h4, h5⟩ := h.defers e he
      exact ⟨b', rfl, h1, h2, h3, h4, fun x hx => h5 _ (hfp hx).1⟩
    dnod := h.dnod
    mle := h.mle.trans hmu
    env := fun t => (h.env t).mono hmu (Wd.le.refl _)
    gens := fun x => by
      by_cases hx : x = d
      · subst hx; simp [St.put, hne, hlen]
      · by_cases hxo : x = o
        · subst hxo; have := h.gens x; rw [ho] at this; simpa [St.put, hx] using this
        · simpa [St.put, hx, hxo] using h.gens x
    mem := fun x n' mo' hx => by
      by_cases hxo : x = o
      · subst hxo
        simp only [St.put, if_true, Prod.mk.injEq] at hx
        obtain ⟨rfl, hx⟩ := hx
        obtain rfl := Option.some.inj hx
        obtain ⟨g, mm, e1, e2, e3⟩ := hO
        exact ⟨g, mm, e1, by simpa [hne.symm] using e2, by simpa [hne.symm] using e3⟩
      · by_cases hxd : x = d
        · subst hxd
          simp only [St.put, hxo, if_false, if_true, Prod.mk.injEq] at hx
          obtain ⟨rfl, hx⟩ := hx
          obtain rfl := Option.some.inj hx
          exact ⟨nd, m, rfl, by simp [← hlen], by simpa using hD⟩
        · simp only [St.put, hxd, hxo, if_false] at hx
          obtain ⟨g, m2, hn, hm2, hh⟩ := h.mem x n' mo' hx
          refine ⟨g, m2, hn, by simpa [hxd] using hm2, ?_⟩
          simp only [hxo, hxd, if_false]
          exact hh.mono hmu (Wd.le.refl _) fun k hk => rfl
    apart := fun x y b' hxy hbx hby => by
      have h1 := hfp hbx
      have h2 := hfp hby
      by_cases hx : x = d <;> by_cases hy : y = d
      · exact hxy (hx.trans hy.symm)
      · by_cases hyo : y = o
        · exact hdis b' (h2.2.2 hyo) (h1.2.1 hx)
        · have a1 := h1.1; have a2 := h2.1
          rw [if_pos hx] at a1; rw [if_neg hy] at a2
          exact h.apart o y b' (Ne.symm hyo) a1 a2
      · by_cases hxo : x = o
        · exact hdis b' (h1.2.2 hxo) (h2.2.1 hy)
        · have a1 := h1.1; have a2 := h2.1
          rw [if_neg hx] at a1; rw [if_pos hy] at a2
          exact h.apart x o b' hxo a1 a2
      · have a1 := h1.1; have a2 := h2.1
        rw [if_neg hx] at a1; rw [if_neg hy] at a2
        exact h.apart x y b' hxy a1 a2
    stab := fun x b' hb => h.stab _ b' (hfp hb).1
    own := fun x b' hb => h.own _ b' (hfp hb).1
    sbd := h.sbd
    ssub := h.ssub
    fr := h.fr }
section ops
variable {C : Ctx} {o : Oper} {σ : St}
end ops
end Go.Aw
namespace Go.Proofs.YtclcfjejpogdlaaGreat.Wi
open Go Go.RowKit Go.Aw Go.Aw.Cart Go.Proofs.YtclcfjejpogdlaaGreat.Ca Go.Proofs.YtclcfjejpogdlaaGreat.Rg
set_option linter.unusedVariables false
set_option linter.unusedSimpArgs false
set_option maxRecDepth 8000
set_option maxHeartbeats 4000000
open B1
theorem ent_fnc {f : FuncId} : Ent1 (.p (.v (.func (.func f) #[] #[]))) (.p (.fnv f [])) := by
  rintro μ X v ⟨rfl, _⟩
  exact ⟨[], rfl, .nil⟩
end Go.Proofs.YtclcfjejpogdlaaGreat.Wi
namespace Go.Aw.Tree
open Go.Aw Go.Aw.Sha
set_option linter.unusedVariables false
set_option linter.unusedSimpArgs false
attribute [local irreducible] sum
def plc (p : Int) : Bool := decide (0 ≤ p ∧ p < 21)
def upF (p : Int) : Int := if 1 ≤ p ∧ p ≤ 20 then (p - 1) / 4 else -1
def leafOf (p : Int) : Int := if 5 ≤ p ∧ p < 21 then p - 5 else -1
def levelF (p : Int) : Int := if p = 0 then 0 else if 1 ≤ p ∧ p ≤ 4 then 1 else if 5 ≤ p ∧ p ≤ 20 then 2 else -1
theorem upF_lt {p : Int} (h : plc p = true) : (upF p + 1).toNat < (p + 1).toNat := by
  have h1 : 0 ≤ p ∧ p < 21 := of_decide_eq_true h
  unfold upF; split <;> omega
theorem levelF_up {p : Int} (h : plc p = true) : levelF p = levelF (upF p) + 1 := by
  have h1 : 0 ≤ p ∧ p < 21 := of_decide_eq_true h
  unfold upF
  by_cases h2 : 1 ≤ p ∧ p ≤ 20
  · rw [if_pos h2]; unfold levelF
    repeat' split
    all_goals omega
  · rw [if_neg h2]; unfold levelF
    repeat' split
    all_goals omega
theorem levelF_in (p : Int) : -1 ≤ levelF p ∧ levelF p ≤ 2 := by
  unfold levelF
  repeat' split
  all_goals omega
theorem levelF_out {p : Int} (h : plc p = false) : levelF p = -1 := by
  have h1 : ¬ (0 ≤ p ∧ p < 21) := of_decide_eq_false h
  unfold levelF
  repeat' split
  all_goals omega
abbrev row (T : List Nat) (p : Nat) : List Nat := rowOf 32 T p
def belowTo (T : List Nat) (p : Int) : Nat → List Nat
  | 0 => [1]
  | i + 1 => belowTo T p i ++ row T (4 * p + 1 + i).toNat
def belowF (T : List Nat) (p : Int) : List Nat := if 0 ≤ p ∧ p ≤ 4 then belowTo T p 4 else []
def okTo (T : List Nat) (n : Nat) : Prop := ∀ p, p < n → row T p = sum (belowF T p)
instance {T : List Nat} {n : Nat} : Decidable (okTo T n) := inferInstanceAs (Decidable (∀ p, p < n → row T p = sum (belowF T p)))
def rightF (T : List Nat) : Bool := decide (okTo T 5)
end Go.Aw.Tree
