/- rings: the point of some bytes, the program's and the reference's; keys: which may be, their points, parts and leaves -/
import Derived.Test.YtbfjcohocedoaaaCaQ
import Derived.Test.YtbfjcohocedoaaaKx
import Derived.Test.YtbfjcohocedoaaaS0
import Derived.Test.YtbfjcohocedoaaaKq
namespace Go.Proofs.Ytbfjcohocedoaaa.Rg
open Go Go.RowKit Go.Aw Go.Aw.Sha Go.Aw.Cart Go.Aw.Ord Go.Sort Go.Proofs.Ytbfjcohocedoaaa.Ca Go.Proofs.Ytbfjcohocedoaaa.Sh
set_option linter.unusedVariables false
set_option linter.unusedSimpArgs false
set_option maxRecDepth 8000
set_option maxHeartbeats 4000000
attribute [local irreducible] sum
/-- the first bytes as a number, the greatest ahead -/
def pv (S : List Nat) : Nat → Nat
  | 0 => 0
  | j + 1 => pv S j * 256 + S.getD j default
def pointF (b : List Nat) : Nat := pv (sum b) 8
theorem sum_okB (b : List Nat) : okB (sum b) := by
  unfold sum digest
  intro x hx
  obtain ⟨i, _, rfl⟩ := List.mem_map.1 hx
  exact Nat.mod_lt _ (by decide)
theorem getD_ok {S : List Nat} (h : okB S) (j : Nat) : S.getD j default < 256 := by
  rw [List.getD_eq_getElem?_getD]
  cases hj : S[j]? with
  | none => exact (by decide : 0 < 256)
  | some x => exact h x (List.mem_of_getElem? hj)
theorem pv_lt {S : List Nat} (h : okB S) : ∀ j, pv S j < 256 ^ j
  | 0 => Nat.one_pos
  | j + 1 => by
    have := pv_lt h j
    have := getD_ok h j
    rw [pv, Nat.pow_succ]; omega
theorem pv_fit {S : List Nat} (h : okB S) {j : Nat} (hj : j ≤ 8) : pv S j < 18446744073709551616 :=
  Nat.lt_of_lt_of_le (pv_lt h j) (show 256 ^ j ≤ 256 ^ 8 from Nat.pow_le_pow_right (by decide) hj)
/-- one byte more, as the machine does it -/
theorem byte_in {a c M : Nat} (ha : a * 256 + c < M) (hc : c < 256) : ((a * 256) % M % M ||| c % M % M) = a * 256 + c := by
  have h1 : c < M := by omega
  have h2 : a * 256 < M := Nat.lt_of_le_of_lt (Nat.le_add_right _ c) ha
  rw [Nat.mod_eq_of_lt h1, Nat.mod_eq_of_lt h1, Nat.mod_eq_of_lt h2, Nat.mod_eq_of_lt h2]
  have := Nat.shiftLeft_add_eq_or_of_lt (i := 8) (show c < 2 ^ 8 from hc) a
  rw [Nat.shiftLeft_eq] at this
  exact this.symm
/-- an own array's first places as a slice -/
theorem lop_sl_arh {C : Ctx} {o : Oper} {σ : St} {T e : TypeId} {x y : Operand} {n sz by_ : Nat} {ke : TK} {sze be : Nat} {ob g off : Nat} {k : IntKind} {m : Int} (ho : o.op = .slice T x none (some y) none) (hT : TI C.P T (.array n e) sz by_) (he : TI C.P e ke sze be) (hx : σ.look x = .o (.ptr ob g off)) (hy : σ.look y = .p (.v (.int k m))) (h0 : 0 ≤ m) (hm : m ≤ n) (hd : dOk C o.dst = true) :
    LOp C o σ ⟨.o (.asl ob g off m.toNat n), []⟩ (fun _ => false) :=
  lop_val hd fun τ a w G hl hm' h => by
    obtain ⟨b, c, h1, h2⟩ := look_of h ((hl x (by simp [ho, Op.operands])).trans hx)
    have e2 := val_of h ((hl y (by simp [ho, Op.operands])).trans hy)
    obtain ⟨d, hdd, hk⟩ := hT.undd
    have : d = .array n e := by cases d <;> simp [TK.of] at hk; rw [hk.1, hk.2]
    subst this
    refine ⟨.slice (some ⟨b, off, none⟩) m.toNat n, ?_, b, c, h1, rfl⟩
    simp [execOp, ho, h2, e2, Instr.sliceAt, Instr.sureAddr, run_underlying hdd, Instr.sliceBounds, run_sb (y := n) h0 hm, he.run_sizeOf, Addr.add]
namespace P6
theorem lopC {C : Ctx} {o : Oper} {σ : St} {e : Eff} {ro : Nat → Bool} (h : LOp C o σ e ro := by
    first | exact lop_wadd' rfl rfl rfl (by with_reducible (first | rfl | exact lit_nat _ | exact ofn_nat _)) (by with_reducible (first | rfl | exact lit_nat _ | exact ofn_nat _)) rfl rfl | exact lop_wmul' rfl rfl rfl (by with_reducible (first | rfl | exact lit_nat _ | exact ofn_nat _)) (by with_reducible (first | rfl | exact lit_nat _ | exact ofn_nat _)) rfl rfl | exact lop_wsub' rfl rfl rfl (by with_reducible (first | rfl | exact lit_nat _ | exact ofn_nat _)) (by with_reducible (first | rfl | exact lit_nat _ | exact ofn_nat _)) rfl rfl | exact lop_wquo' rfl rfl rfl (by with_reducible (first | rfl | exact lit_nat _ | exact ofn_nat _)) (by with_reducible (first | rfl | exact lit_nat _ | exact ofn_nat _)) (by decide) rfl rfl | exact lop_wrem' rfl rfl rfl (by with_reducible (first | rfl | exact lit_nat _ | exact ofn_nat _)) (by with_reducible (first | rfl | exact lit_nat _ | exact ofn_nat _)) (by decide) rfl | exact lop_wand' rfl rfl rfl (by with_reducible (first | rfl | exact lit_nat _ | exact ofn_nat _)) (by with_reducible (first | rfl | exact lit_nat _ | exact ofn_nat _)) rfl rfl | exact lop_wor' rfl rfl rfl (by with_reducible (first | rfl | exact lit_nat _ | exact ofn_nat _)) (by with_reducible (first | rfl | exact lit_nat _ | exact ofn_nat _)) rfl rfl | exact lop_wxor' rfl rfl rfl (by with_reducible (first | rfl | exact lit_nat _ | exact ofn_nat _)) (by with_reducible (first | rfl | exact lit_nat _ | exact ofn_nat _)) rfl rfl | exact lop_wnot' rfl rfl (by with_reducible (first | rfl | exact lit_nat _ | exact ofn_nat _)) rfl rfl | exact lop_wshr' rfl rfl (by with_reducible (first | rfl | exact lit_nat _ | exact ofn_nat _)) rfl (by first | decide | omega) (by first | decide | (simp only [IntKind.bits]; omega)) rfl | exact lop_wshl' rfl rfl (by with_reducible (first | rfl | exact lit_nat _ | exact ofn_nat _)) rfl (by first | decide | omega) (by first | decide | (simp only [IntKind.bits]; omega)) rfl rfl | (apply lop_wconv'; (focus rfl); (focus exact inferInstance); (focus exact inferInstance); (focus rfl); (focus exact (by with_reducible (first | rfl | exact lit_nat _ | exact ofn_nat _))); (focus rfl); (focus rfl)) | (apply lop_sl_arh; (focus rfl); (focus exact inferInstance); (focus exact inferInstance); (focus rfl); (focus rfl); (focus decide); (focus decide); (focus rfl)) | exact lop_len_asl rfl rfl rfl | exact lopQ | fail) : LOp C o σ e ro := h
section steps
variable {C : Ctx} {ops : Array Oper} {o : Oper} {rest : List Oper} {K : St → Prop} {σ : St} {e : Eff} {ro : Nat → Bool} {W : List (Nat × Nat)} {i : Nat}
theorem rnC {d : Nat} (hk : RunN C ops rest K (e.app (some d) σ)) (hg : Guard ops σ o true := by first | exact gd_n rfl rfl | exact gd_t rfl rfl rfl rfl | exact gd_t rfl rfl rfl (by assumption)) (hd : o.dst = some d := by rfl) (h : LOp C o σ e ro := by exact lopC) : RunN C ops (o :: rest) K σ := rn_any hg hd h hk
theorem rkC {d : Nat} (hk : RunK C ops W (i + 1) rest K (e.app (some d) σ)) (hg : Guard ops σ o true := by first | exact gd_n rfl rfl | exact gd_t rfl rfl rfl rfl | exact gd_t rfl rfl rfl (by assumption)) (hd' : o.dst = some d := by rfl) (hd : dOk C o.dst = true := by rfl) (h : LOp C o σ e ro := by exact lopC)
    (hro : ∀ x, ro x = true → okObj ops W i x = true := by first | exact fun _ => ro_none | exact ro_one rfl | exact ro_one (by kernel_rfl) | exact ro_kIn (by decide)) (hob : ∀ p ∈ e.obj, (i, p.1) ∈ W := by first | exact ob_none | exact ob_one (by decide) | decide) : RunK C ops W i (o :: rest) K σ := rk_wr hg hd' hd h hro hob hk
end steps
end P6
open P6
theorem shaPoint_w (b : List Nat) (ex : Bool) (h : b.length ≤ 500000000) : PCall Try.prog 73 [bytesN b ex] (.p (.k .u64 (pointF b : Int))) := by
  refine pcall_of Try.func73 rfl (fun w0 F S0 M0 => ?_)
  obtain ⟨S, hS⟩ : ∃ S, S = sum b := ⟨_, rfl⟩
  have hSl : S.length = 32 := by rw [hS]; exact sum_len b
  have hSo : okB S := by rw [hS]; exact sum_okB b
  haveI : PC Try.prog 83 [.p (.sl 1 [[bytesP b ex]] true)] True (.a (S.map bc)) := ⟨fun _ => by rw [hS]; exact sum1_c b ex true h⟩
  rw [show pointF b = pv S 8 by rw [hS]; rfl]
  clear hS
  repeat' (first | refine rnC ?_ | refine rnSB ?_ | refine rnG ?_ | refine rnU ?_ | ((fail_if_success (refine rnKn ?_)); refine rnP ?_ ?_ <;> (intro hq; try (have hq' := hq; simp only [hqs] at hq'))) | refine rkC ?_ | refine rkSB ?_ | refine rkF ?_ | refine rkU ?_ | ((fail_if_success (refine rkKn ?_)); refine rkP ?_ ?_ <;> (intro hq; try (have hq' := hq; simp only [hqs] at hq'))) | refine stp ?_ | refine ifT ?_ | refine ifF ?_ | (refine ifQ ?_ ?_ <;> (try (intro hn))) | (refine ifB ?_ ?_ <;> (intro hq; try (have hq' := hq; simp only [hqs] at hq'))))
  refine aws_loopS [3, 6, 12, 13, 14, 15, 16, 17, 18, 19, 20, 21] [] (fun (i : Nat) => [(12, .p (.i i)), (3, .p (.k .u64 (pv S i : Int)))]) (fun _ => []) (fun i => i ≤ 8) (fun i => 8 - i) 0 (Nat.zero_le _) (by exact knA) (by exact knA) ?_
  rintro i β γ hi
  by_cases hil : i < 8
  · have d1 : decide ((i : Int) < 8) = true := decide_eq_true (by omega)
    as_aux_lemma =>
      repeat' (first | refine rnC ?_ | refine rnSB ?_ | refine rnG ?_ | refine rnU ?_ | ((fail_if_success (refine rnKn ?_)); refine rnP ?_ ?_ <;> (intro hq; try (have hq' := hq; simp only [hqs] at hq'))) | refine rkC ?_ | refine rkSB ?_ | refine rkF ?_ | refine rkU ?_ | ((fail_if_success (refine rkKn ?_)); refine rkP ?_ ?_ <;> (intro hq; try (have hq' := hq; simp only [hqs] at hq'))) | refine stp ?_ | refine ifT ?_ | refine ifF ?_ | (refine ifQ ?_ ?_ <;> (try (intro hn))) | (refine ifB ?_ ?_ <;> (intro hq; try (have hq' := hq; simp only [hqs] at hq'))))
      refine ⟨i + 1, _, by omega, (by show i + 1 ≤ 8; omega), .refl, ?_⟩
      have e : pv S (i + 1) = (pv S i * 2 ^ (8 : Int).toNat) % md .u64 % md .u64 ||| S.getD (i : Int).toNat default % md .u64 % md .u64 := by
        rw [pv, Int.toNat_natCast]
        exact (byte_in (M := md .u64) (by have := pv_fit hSo (show i + 1 ≤ 8 by omega); rwa [pv] at this) (getD_ok hSo i)).symm
      try dsimp only
      rw [e]
      exact frA
  · have d1 : decide ((i : Int) < 8) = false := decide_eq_false (by omega)
    obtain rfl : i = 8 := by omega
    as_aux_lemma =>
      repeat' (first | refine rnC ?_ | refine rnSB ?_ | refine rnG ?_ | refine rnU ?_ | ((fail_if_success (refine rnKn ?_)); refine rnP ?_ ?_ <;> (intro hq; try (have hq' := hq; simp only [hqs] at hq'))) | refine rkC ?_ | refine rkSB ?_ | refine rkF ?_ | refine rkU ?_ | ((fail_if_success (refine rkKn ?_)); refine rkP ?_ ?_ <;> (intro hq; try (have hq' := hq; simp only [hqs] at hq'))) | refine stp ?_ | refine ifT ?_ | refine ifF ?_ | (refine ifQ ?_ ?_ <;> (try (intro hn))) | (refine ifB ?_ ?_ <;> (intro hq; try (have hq' := hq; simp only [hqs] at hq'))))
      exact rt1 rfl rfl finS_p rfl
/-- a node's point -/
def ptF (node i : Int) : Int := (pointF [110, (48 + node).toNat, (97 + i).toNat] : Int)
theorem shaPoint3_w (x y z : Int) (ex : Bool) (hx : 0 ≤ x) (hy : 0 ≤ y) (hz : 0 ≤ z) : PCall Try.prog 73 [.p (.sl 1 (([x, y, z] : List Int).map fun n => [PVal.v (.int .u8 n)]) ex)] (.p (.k .u64 (pointF [x.toNat, y.toNat, z.toNat] : Int))) := by
  have := shaPoint_w [x.toNat, y.toNat, z.toNat] ex (by simp)
  have e : (([x, y, z] : List Int).map fun n => [PVal.v (.int .u8 n)]) = [x.toNat, y.toNat, z.toNat].map br := by
    obtain ⟨x, rfl⟩ : ∃ q : Nat, x = q := ⟨x.toNat, by omega⟩
    obtain ⟨y, rfl⟩ : ∃ q : Nat, y = q := ⟨y.toNat, by omega⟩
    obtain ⟨z, rfl⟩ : ∃ q : Nat, z = q := ⟨z.toNat, by omega⟩
    rfl
  rw [e]; exact this
instance shaPoint_i {node i : Int} {ex : Bool} : PC Try.prog 73 [.p (.sl 1 (([110, 48 + node, 97 + i] : List Int).map fun n => [PVal.v (.int .u8 n)]) ex)] (0 ≤ node ∧ 0 ≤ i) (.p (.k .u64 (ptF node i))) := ⟨fun h => shaPoint3_w 110 (48 + node) (97 + i) ex (by decide) (by omega) (by omega)⟩
end Go.Proofs.Ytbfjcohocedoaaa.Rg
namespace Go.Proofs.Ytbfjcohocedoaaa.Rg
open Go Go.RowKit Go.Aw Go.Aw.Sha Go.Aw.Cart Go.Aw.Ord Go.Sort Go.Proofs.Ytbfjcohocedoaaa.Ca Go.Proofs.Ytbfjcohocedoaaa.Sh
set_option linter.unusedVariables false
set_option linter.unusedSimpArgs false
set_option maxRecDepth 8000
set_option maxHeartbeats 4000000
attribute [local irreducible] sum
abbrev strV (k : List Nat) : AV := .p (.v (.string (strOf k)))
def byteOk (c : Nat) : Bool := decide ((97 ≤ c ∧ c ≤ 122) ∨ (48 ≤ c ∧ c ≤ 57) ∨ c = 45)
def keyR (k : List Nat) : Bool := decide ((1 ≤ k.length ∧ k.length ≤ 20) ∧ ∀ c ∈ k, byteOk c = true)
def partF (k : List Nat) : Nat := pointF k / 2305843009213693952
def leafF (k : List Nat) : Nat := pointF k / 144115188075855872 % 16
theorem point_lt (k : List Nat) : pointF k < 18446744073709551616 := pv_fit (sum_okB k) (Nat.le_refl 8)
theorem part_lt (k : List Nat) : partF k < 8 := by have := point_lt k; unfold partF; omega
theorem part_top (k : List Nat) : (sum k).getD 0 default / 32 = partF k := by
  unfold partF pointF
  have h := fun j => getD_ok (sum_okB k) j
  have h0 := h 0; have h1 := h 1; have h2 := h 2; have h3 := h 3; have h4 := h 4; have h5 := h 5; have h6 := h 6; have h7 := h 7
  simp only [pv]
  omega
theorem all_get {k : List Nat} : (∀ c ∈ k, byteOk c = true) ↔ ∀ j, j < k.length → byteOk (k.getD j default) = true := by
  constructor
  · intro h j hj
    exact h _ (by rw [getD_at hj]; exact List.getElem_mem _)
  · intro h c hc
    obtain ⟨j, hj, rfl⟩ := getD_mem hc
    exact h j hj
namespace Y1
theorem lopC {C : Ctx} {o : Oper} {σ : St} {e : Eff} {ro : Nat → Bool} (h : LOp C o σ e ro := by
    first | (apply lop_len_sb; (focus rfl); (focus exact inferInstance); (focus rfl); (focus rfl)) | (apply lop_ix_sb; (focus rfl); (focus exact inferInstance); (focus rfl); (focus assumption); (focus rfl); (focus omega); (focus omega); (focus rfl)) | exact P6.lopC | fail) : LOp C o σ e ro := h
section steps
variable {C : Ctx} {ops : Array Oper} {o : Oper} {rest : List Oper} {K : St → Prop} {σ : St} {e : Eff} {ro : Nat → Bool} {W : List (Nat × Nat)} {i : Nat}
theorem rnC {d : Nat} (hk : RunN C ops rest K (e.app (some d) σ)) (hg : Guard ops σ o true := by first | exact gd_n rfl rfl | exact gd_t rfl rfl rfl rfl | exact gd_t rfl rfl rfl (by assumption)) (hd : o.dst = some d := by rfl) (h : LOp C o σ e ro := by exact lopC) : RunN C ops (o :: rest) K σ := rn_any hg hd h hk
theorem rkC {d : Nat} (hk : RunK C ops W (i + 1) rest K (e.app (some d) σ)) (hg : Guard ops σ o true := by first | exact gd_n rfl rfl | exact gd_t rfl rfl rfl rfl | exact gd_t rfl rfl rfl (by assumption)) (hd' : o.dst = some d := by rfl) (hd : dOk C o.dst = true := by rfl) (h : LOp C o σ e ro := by exact lopC)
    (hro : ∀ x, ro x = true → okObj ops W i x = true := by first | exact fun _ => ro_none | exact ro_one rfl | exact ro_one (by kernel_rfl) | exact ro_kIn (by decide)) (hob : ∀ p ∈ e.obj, (i, p.1) ∈ W := by first | exact ob_none | exact ob_one (by decide) | decide) : RunK C ops W i (o :: rest) K σ := rk_wr hg hd' hd h hro hob hk
end steps
end Y1
open Y1
theorem isByte_w (c : Nat) : PCall Try.prog 30 [.p (.k .u8 (c : Int))] (.p (.b (byteOk c))) := by
  refine pcall_of Try.func30 rfl (fun w0 F S0 M0 => ?_)
  unfold byteOk
  as_aux_lemma =>
    repeat' (first | refine rnC ?_ | refine rnSB ?_ | refine rnG ?_ | refine rnU ?_ | ((fail_if_success (refine rnKn ?_)); refine rnP ?_ ?_ <;> (intro hq; try (have hq' := hq; simp only [hqs] at hq'))) | refine rkC ?_ | refine rkSB ?_ | refine rkF ?_ | refine rkU ?_ | ((fail_if_success (refine rkKn ?_)); refine rkP ?_ ?_ <;> (intro hq; try (have hq' := hq; simp only [hqs] at hq'))) | refine stp ?_ | refine aws_draws [] mixed (by kernel_rfl) ?_ | refine ifT ?_ | refine ifF ?_ | (refine ifQ ?_ ?_ <;> (try (intro hn))) | (refine ifB ?_ ?_ <;> (intro hq; try (have hq' := hq; simp only [hqs] at hq'))))
    all_goals refine rt1 rfl rfl finS_p (rb ?_)
    all_goals first | exact decide_eq_decide.2 (by omega) | exact decide_eq_true (by omega) | exact decide_eq_false (by omega)
instance isByte_i {c : Nat} : PC Try.prog 30 [.p (.k .u8 (c : Int))] True (.p (.b (byteOk c))) := ⟨fun _ => isByte_w c⟩
theorem keyRightL_w (k : List Nat) (hk : okB k) (hl : k.length ≤ 9223372036854775807) : PCall Try.prog 13 [strV k] (.p (.b (keyR k))) := by
  refine pcall_of Try.func13 rfl (fun w0 F S0 M0 => ?_)
  unfold keyR
  rw [decide_eq_decide.2 (and_congr Iff.rfl all_get)]
  repeat' (first | refine rnC ?_ | refine rnSB ?_ | refine rnG ?_ | refine rnU ?_ | ((fail_if_success (refine rnKn ?_)); refine rnP ?_ ?_ <;> (intro hq; try (have hq' := hq; simp only [hqs] at hq'))) | refine rkC ?_ | refine rkSB ?_ | refine rkF ?_ | refine rkU ?_ | ((fail_if_success (refine rkKn ?_)); refine rkP ?_ ?_ <;> (intro hq; try (have hq' := hq; simp only [hqs] at hq'))) | refine stp ?_ | refine ifT ?_ | refine ifF ?_ | (refine ifQ ?_ ?_ <;> (try (intro hn))) | (refine ifB ?_ ?_ <;> (intro hq; try (have hq' := hq; simp only [hqs] at hq'))))
  refine aws_loopS [2, 3, 6, 7, 8, 9, 10, 11, 12, 13, 14, 15, 16, 17, 18] [] (fun (i : Nat) => [(6, .p (.i i))]) (fun _ => []) (fun i => i ≤ k.length ∧ i ≤ 20 ∧ ∀ j, j < i → byteOk (k.getD j default) = true) (fun i => k.length - i) 0 ⟨Nat.zero_le _, Nat.zero_le _, fun j hj => absurd hj (Nat.not_lt_zero _)⟩ (by exact knA) (by exact knA) ?_
  rintro i β γ ⟨hi, hi2, hx⟩
  by_cases hil : i < k.length
  · have d1 : decide ((i : Int) < (k.length : Int)) = true := decide_eq_true (by omega)
    have ei : (i : Int).toNat = i := Int.toNat_natCast i
    by_cases h20 : 20 ≤ i
    · have d2 : decide (20 ≤ (i : Int)) = true := decide_eq_true (by omega)
      rw [decide_eq_false (fun q => by omega)]
      as_aux_lemma =>
        repeat' (first | refine rnC ?_ | refine rnSB ?_ | refine rnG ?_ | refine rnU ?_ | ((fail_if_success (refine rnKn ?_)); refine rnP ?_ ?_ <;> (intro hq; try (have hq' := hq; simp only [hqs] at hq'))) | refine rkC ?_ | refine rkSB ?_ | refine rkF ?_ | refine rkU ?_ | ((fail_if_success (refine rkKn ?_)); refine rkP ?_ ?_ <;> (intro hq; try (have hq' := hq; simp only [hqs] at hq'))) | refine stp ?_ | refine ifT ?_ | refine ifF ?_ | (refine ifQ ?_ ?_ <;> (try (intro hn))) | (refine ifB ?_ ?_ <;> (intro hq; try (have hq' := hq; simp only [hqs] at hq'))))
        exact rt1 rfl rfl finS_p rfl
    · have d2 : decide (20 ≤ (i : Int)) = false := decide_eq_false (by omega)
      cases hb : byteOk (k.getD (i : Int).toNat default) with
      | true =>
        have d3 : (!byteOk (k.getD (i : Int).toNat default)) = false := by rw [hb]; rfl
        rw [ei] at hb
        repeat' (first | refine rnC ?_ | refine rnSB ?_ | refine rnG ?_ | refine rnU ?_ | ((fail_if_success (refine rnKn ?_)); refine rnP ?_ ?_ <;> (intro hq; try (have hq' := hq; simp only [hqs] at hq'))) | refine rkC ?_ | refine rkSB ?_ | refine rkF ?_ | refine rkU ?_ | ((fail_if_success (refine rkKn ?_)); refine rkP ?_ ?_ <;> (intro hq; try (have hq' := hq; simp only [hqs] at hq'))) | refine stp ?_ | refine ifT ?_ | refine ifF ?_ | (refine ifQ ?_ ?_ <;> (try (intro hn))) | (refine ifB ?_ ?_ <;> (intro hq; try (have hq' := hq; simp only [hqs] at hq'))))
        refine ⟨i + 1, _, by omega, ⟨by omega, by omega, fun j hj => ?_⟩, .refl, by exact frA⟩
        by_cases e : j = i
        · rw [e]; exact hb
        · exact hx j (by omega)
      | false =>
        have d3 : (!byteOk (k.getD (i : Int).toNat default)) = true := by rw [hb]; rfl
        rw [ei] at hb
        rw [decide_eq_false (fun q => by have := q.2 i hil; rw [hb] at this; cases this)]
        as_aux_lemma =>
          repeat' (first | refine rnC ?_ | refine rnSB ?_ | refine rnG ?_ | refine rnU ?_ | ((fail_if_success (refine rnKn ?_)); refine rnP ?_ ?_ <;> (intro hq; try (have hq' := hq; simp only [hqs] at hq'))) | refine rkC ?_ | refine rkSB ?_ | refine rkF ?_ | refine rkU ?_ | ((fail_if_success (refine rkKn ?_)); refine rkP ?_ ?_ <;> (intro hq; try (have hq' := hq; simp only [hqs] at hq'))) | refine stp ?_ | refine ifT ?_ | refine ifF ?_ | (refine ifQ ?_ ?_ <;> (try (intro hn))) | (refine ifB ?_ ?_ <;> (intro hq; try (have hq' := hq; simp only [hqs] at hq'))))
          exact rt1 rfl rfl finS_p rfl
  · have d1 : decide ((i : Int) < (k.length : Int)) = false := decide_eq_false (by omega)
    rw [decide_eq_decide.2 (show ((1 ≤ k.length ∧ k.length ≤ 20) ∧ ∀ j, j < k.length → byteOk (k.getD j default) = true) ↔ 0 < (k.length : Int) from ⟨fun q => by omega, fun q => ⟨by omega, fun j hj => hx j (by omega)⟩⟩)]
    as_aux_lemma =>
      repeat' (first | refine rnC ?_ | refine rnSB ?_ | refine rnG ?_ | refine rnU ?_ | ((fail_if_success (refine rnKn ?_)); refine rnP ?_ ?_ <;> (intro hq; try (have hq' := hq; simp only [hqs] at hq'))) | refine rkC ?_ | refine rkSB ?_ | refine rkF ?_ | refine rkU ?_ | ((fail_if_success (refine rkKn ?_)); refine rkP ?_ ?_ <;> (intro hq; try (have hq' := hq; simp only [hqs] at hq'))) | refine stp ?_ | refine ifT ?_ | refine ifF ?_ | (refine ifQ ?_ ?_ <;> (try (intro hn))) | (refine ifB ?_ ?_ <;> (intro hq; try (have hq' := hq; simp only [hqs] at hq'))))
      exact rt1 rfl rfl finS_p rfl
theorem keyRight_w (k : List Nat) (hk : okB k) (hl : k.length ≤ 1000000) : PCall Try.prog 13 [strV k] (.p (.b (keyR k))) := keyRightL_w k hk (by omega)
instance keyRight_i {k : List Nat} : PC Try.prog 13 [strV k] (okB k ∧ k.length ≤ 1000000) (.p (.b (keyR k))) := ⟨fun h => keyRight_w k h.1 h.2⟩
theorem keyPoint_w (k : List Nat) (hk : okB k) (hl : k.length ≤ 1000000) : PCall Try.prog 53 [strV k] (.p (.k .u64 (pointF k : Int))) := by
  refine pcall_of Try.func53 rfl (fun w0 F S0 M0 => ?_)
  haveI : ∀ ex, PC Try.prog 73 [bytesN k ex] True (.p (.k .u64 (pointF k : Int))) := fun ex => ⟨fun _ => shaPoint_w k ex (by omega)⟩
  as_aux_lemma =>
    repeat' (first | refine rnC ?_ | refine rnSB ?_ | refine rnG ?_ | refine rnU ?_ | ((fail_if_success (refine rnKn ?_)); refine rnP ?_ ?_ <;> (intro hq; try (have hq' := hq; simp only [hqs] at hq'))) | refine rkC ?_ | refine rkSB ?_ | refine rkF ?_ | refine rkU ?_ | ((fail_if_success (refine rkKn ?_)); refine rkP ?_ ?_ <;> (intro hq; try (have hq' := hq; simp only [hqs] at hq'))) | refine stp ?_ | refine ifT ?_ | refine ifF ?_ | (refine ifQ ?_ ?_ <;> (try (intro hn))) | (refine ifB ?_ ?_ <;> (intro hq; try (have hq' := hq; simp only [hqs] at hq'))))
    exact rt1 rfl rfl finS_p rfl
instance keyPoint_i {k : List Nat} : PC Try.prog 53 [strV k] (okB k ∧ k.length ≤ 1000000) (.p (.k .u64 (pointF k : Int))) := ⟨fun h => keyPoint_w k h.1 h.2⟩
theorem keyAt_w (k : List Nat) (hk : okB k) (hl : k.length ≤ 1000000) : PCall Try.prog 33 [strV k] (.tup [.one (.p (.i (partF k : Int))), .one (.p (.i (leafF k : Int)))]) := by
  refine pcall_of Try.func33 rfl (fun w0 F S0 M0 => ?_)
  have hp := point_lt k
  unfold partF leafF
  obtain ⟨p, hP⟩ : ∃ p, p = pointF k := ⟨_, rfl⟩
  haveI : PC Try.prog 53 [strV k] True (.p (.k .u64 (p : Int))) := ⟨fun _ => by rw [hP]; exact keyPoint_w k hk hl⟩
  rw [← hP] at hp ⊢
  have e1 : IntKind.i64.wrap ((p / 2 ^ (61 : Int).toNat : Nat) : Int) = ((p / 2305843009213693952 : Nat) : Int) := by
    rw [show p / 2 ^ (61 : Int).toNat = p / 2305843009213693952 from rfl]
    exact IntWalk.i64_in _ (by omega)
  have e2 : IntKind.i64.wrap ((p / 2 ^ (57 : Int).toNat % md .u64 &&& 15 % md .u64 : Nat) : Int) = ((p / 144115188075855872 % 16 : Nat) : Int) := by
    have h1 : p / 2 ^ (57 : Int).toNat % md .u64 = p / 144115188075855872 := Nat.mod_eq_of_lt (show p / 144115188075855872 < 18446744073709551616 by omega)
    have h2 : 15 % md .u64 = 2 ^ 4 - 1 := rfl
    rw [h1, h2, Nat.and_two_pow_sub_one_eq_mod]
    exact IntWalk.i64_in _ (by omega)
  rw [← e1, ← e2]
  as_aux_lemma =>
    repeat' (first | refine rnC ?_ | refine rnSB ?_ | refine rnG ?_ | refine rnU ?_ | ((fail_if_success (refine rnKn ?_)); refine rnP ?_ ?_ <;> (intro hq; try (have hq' := hq; simp only [hqs] at hq'))) | refine rkC ?_ | refine rkSB ?_ | refine rkF ?_ | refine rkU ?_ | ((fail_if_success (refine rkKn ?_)); refine rkP ?_ ?_ <;> (intro hq; try (have hq' := hq; simp only [hqs] at hq'))) | refine stp ?_ | refine ifT ?_ | refine ifF ?_ | (refine ifQ ?_ ?_ <;> (try (intro hn))) | (refine ifB ?_ ?_ <;> (intro hq; try (have hq' := hq; simp only [hqs] at hq'))))
    exact rt2 rfl rfl finS_p rfl finS_p rfl
instance keyAt_i {k : List Nat} : PC Try.prog 33 [strV k] (okB k ∧ k.length ≤ 1000000) (.tup [.one (.p (.i (partF k : Int))), .one (.p (.i (leafF k : Int)))]) := ⟨fun h => keyAt_w k h.1 h.2⟩
theorem keyPart_w (k : List Nat) (hk : okB k) (hl : k.length ≤ 1000000) : PCall Try.prog 16 [strV k] (.p (.i (partF k : Int))) := by
  refine pcall_of Try.func16 rfl (fun w0 F S0 M0 => ?_)
  as_aux_lemma =>
    repeat' (first | refine rnC ?_ | refine rnSB ?_ | refine rnG ?_ | refine rnU ?_ | ((fail_if_success (refine rnKn ?_)); refine rnP ?_ ?_ <;> (intro hq; try (have hq' := hq; simp only [hqs] at hq'))) | refine rkC ?_ | refine rkSB ?_ | refine rkF ?_ | refine rkU ?_ | ((fail_if_success (refine rkKn ?_)); refine rkP ?_ ?_ <;> (intro hq; try (have hq' := hq; simp only [hqs] at hq'))) | refine stp ?_ | refine ifT ?_ | refine ifF ?_ | (refine ifQ ?_ ?_ <;> (try (intro hn))) | (refine ifB ?_ ?_ <;> (intro hq; try (have hq' := hq; simp only [hqs] at hq'))))
    exact rt1 rfl rfl finS_p rfl
instance keyPart_i {k : List Nat} : PC Try.prog 16 [strV k] (okB k ∧ k.length ≤ 1000000) (.p (.i (partF k : Int))) := ⟨fun h => keyPart_w k h.1 h.2⟩
end Go.Proofs.Ytbfjcohocedoaaa.Rg
