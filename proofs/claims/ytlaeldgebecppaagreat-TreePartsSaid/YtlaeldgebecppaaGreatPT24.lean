/- SHA-256, the program's: the sum.; SHA-256, the program's: the sum, as callers write its texts.; rings: the point of some bytes, the program's and the reference's -/
import Derived.Test.YtlaeldgebecppaaGreatPT23
import Derived.Test.YtlaeldgebecppaaGreatPT04
import Derived.Test.YtlaeldgebecppaaGreatPT14
import Derived.Test.YtlaeldgebecppaaGreatPT17
namespace Go.Proofs.YtlaeldgebecppaaGreat.Sh
open Go Go.RowKit Go.Aw Go.Aw.Sha
set_option linter.unusedVariables false
set_option linter.unusedSimpArgs false
set_option maxRecDepth 8000
theorem pad_len (b : List Nat) : (pad b).length = b.length + 1 + zeros b.length + 8 := by simp [pad, lenBytes]; omega
theorem pad_64 (b : List Nat) : (pad b).length = 64 * ((pad b).length / 64) := by rw [pad_len]; unfold zeros; omega
theorem blocks_succ (P : List Nat) (j : Nat) : blocks P (j + 1) = block (blocks P j) (chunkAt P 64 j) := rfl
theorem blocks_zero (P : List Nat) : firstV = blocks P 0 := rfl
theorem sum_def (b : List Nat) : sum b = digest (blocks (pad b) ((pad b).length / 64)) := rfl
theorem Agr.put' {σ τ : St} {W M : List Nat} {o : Nat} {m : Nat × Option MO} (h : Agr σ W (o :: M) τ) : Agr (σ.put o m) W M (τ.put o m) := ⟨h.env, fun t ht => by
  by_cases e : t = o
  · subst e; simp [St.put]
  · have hb : Nat.beq t o = false := Bool.eq_false_iff.2 (fun k => e (Nat.eq_of_beq_eq_true k))
    have := h.mem t (by simp only [memb, hb, ht, Bool.or_self])
    simp [St.put, e, this]⟩
attribute [local irreducible] pad blocks block sum
theorem sum_c (ls : List (List Nat × Bool)) (ex : Bool) (h : (ls.flatMap (·.1)).length ≤ 500000000 ∧ ls.length ≤ 1000000000) :
    PCall Tryz.prog 71 [pieces ls ex] (.a ((sum (ls.flatMap (·.1))).map bc)) := by
  refine pcall_of Tryz.func71 rfl (fun w0 F S0 M0 => ?_)
  have hp : (pad (ls.flatMap (·.1))).length ≤ 1000000000 := by rw [pad_len]; unfold zeros; omega
  have hp64 := pad_64 (ls.flatMap (·.1))
  have hsum : sum (ls.flatMap (·.1)) = digest (blocks (pad (ls.flatMap (·.1))) ((pad (ls.flatMap (·.1))).length / 64)) := sum_def _
  repeat' (first | refine rnA ?_ | refine rnS ?_ | refine rnG ?_ | refine rnU ?_ | ((fail_if_success (refine rnKn ?_)); refine rnP ?_ ?_ <;> (intro hq; try (have hq' := hq; simp only [hqs] at hq'))) | refine rkA ?_ | refine rkS ?_ | refine rkF ?_ | refine rkU ?_ | ((fail_if_success (refine rkKn ?_)); refine rkP ?_ ?_ <;> (intro hq; try (have hq' := hq; simp only [hqs] at hq'))) | refine stp ?_ | refine ifT ?_ | refine ifF ?_ | (refine ifQ ?_ ?_ <;> (try (intro hn))) | (refine ifB ?_ ?_ <;> (intro hq; try (have hq' := hq; simp only [hqs] at hq'))))
  generalize hP : pad (ls.flatMap (·.1)) = P at hp hp64 hsum ⊢
  refine aws_block ?_
  refine aws_range (ι := V8) [9, 4, 10, 11, 12] [3] (fun v => [(3, (1, some (.box 194 (v8 v))))]) (fun j v => v = blocks P j) firstV rfl inferInstance (chunks_c P false (P.length / 64) hp64 hp) rfl ?_ rfl rfl (fun i => rfl) rfl (blocks_zero P) (by exact knA) ?_ ?_
  · intro x hx
    simp only [List.mem_map] at hx
    obtain ⟨i, _, rfl⟩ := hx
    exact inferInstance
  · intro j x hjx v γ w0 F S0 M0 l R R' hv
    rw [List.getElem?_map] at hjx
    have hj : j < P.length / 64 := by
      by_cases hlt : j < P.length / 64
      · exact hlt
      · rw [List.getElem?_eq_none (by simp; omega)] at hjx; cases hjx
    rw [List.getElem?_range hj] at hjx
    obtain rfl := Option.some.inj hjx
    have hcl : (chunkAt P 64 j).length = 64 := by simp only [chunkAt, List.length_take, List.length_drop]; omega
    have hvo : v.ok := by rw [hv]; exact blocks_ok P j
    obtain ⟨B, hB⟩ : ∃ B, B = block v (chunkAt P 64 j) := ⟨_, rfl⟩
    have hbc : PCall Tryz.prog 144 [.a (v8 v), bytesN (chunkAt P 64 j) true] (.a (v8 B)) := by rw [hB]; exact block_c v _ true hcl hvo
    haveI : PC Tryz.prog 144 [.a (v8 v), bytesN (chunkAt P 64 j) true] True (.a (v8 B)) := ⟨fun _ => hbc⟩
    repeat' (first | refine rnA ?_ | refine rnS ?_ | refine rnG ?_ | refine rnU ?_ | ((fail_if_success (refine rnKn ?_)); refine rnP ?_ ?_ <;> (intro hq; try (have hq' := hq; simp only [hqs] at hq'))) | refine rkA ?_ | refine rkS ?_ | refine rkF ?_ | refine rkU ?_ | ((fail_if_success (refine rkKn ?_)); refine rkP ?_ ?_ <;> (intro hq; try (have hq' := hq; simp only [hqs] at hq'))) | refine stp ?_ | refine ifT ?_ | refine ifF ?_ | (refine ifQ ?_ ?_ <;> (try (intro hn))) | (refine ifB ?_ ?_ <;> (intro hq; try (have hq' := hq; simp only [hqs] at hq'))))
    refine ⟨rfl, rfl, ?_⟩
    repeat' (first | refine rnA ?_ | refine rnS ?_ | refine rnG ?_ | refine rnU ?_ | ((fail_if_success (refine rnKn ?_)); refine rnP ?_ ?_ <;> (intro hq; try (have hq' := hq; simp only [hqs] at hq'))) | refine rkA ?_ | refine rkS ?_ | refine rkF ?_ | refine rkU ?_ | ((fail_if_success (refine rkKn ?_)); refine rkP ?_ ?_ <;> (intro hq; try (have hq' := hq; simp only [hqs] at hq'))) | refine stp ?_ | refine ifT ?_ | refine ifF ?_ | (refine ifQ ?_ ?_ <;> (try (intro hn))) | (refine ifB ?_ ?_ <;> (intro hq; try (have hq' := hq; simp only [hqs] at hq'))))
    refine ⟨rfl, B, _, ?_, .refl, Fr'.mk ?_ (by exact knA) (by exact knA)⟩
    rotate_left 1
    · repeat' (first | exact Agr.refl | refine Agr.appg rfl rfl ?_ | refine Agr.appgn rfl ?_ | refine Agr.set rfl ?_ | refine Agr.put rfl ?_ | refine Agr.put' ?_ | refine Agr.fr ?_ (memb_sub rfl) (memb_sub rfl) rfl rfl)
    · show B = blocks P (j + 1)
      rw [blocks_succ, ← hv, hB]
  · intro v γ hv
    simp only [List.length_map, List.length_range] at hv
    repeat' (first | refine rnA ?_ | refine rnS ?_ | refine rnG ?_ | refine rnU ?_ | ((fail_if_success (refine rnKn ?_)); refine rnP ?_ ?_ <;> (intro hq; try (have hq' := hq; simp only [hqs] at hq'))) | refine rkA ?_ | refine rkS ?_ | refine rkF ?_ | refine rkU ?_ | ((fail_if_success (refine rkKn ?_)); refine rkP ?_ ?_ <;> (intro hq; try (have hq' := hq; simp only [hqs] at hq'))) | refine stp ?_ | refine ifT ?_ | refine ifF ?_ | (refine ifQ ?_ ?_ <;> (try (intro hn))) | (refine ifB ?_ ?_ <;> (intro hq; try (have hq' := hq; simp only [hqs] at hq'))))
    refine rc1 rfl rfl rfl rfl rfl (by simp [digest]) finL_p ?_
    rw [hsum, ← hv]
end Go.Proofs.YtlaeldgebecppaaGreat.Sh
namespace Go.Proofs.YtlaeldgebecppaaGreat.Sh
open Go Go.RowKit Go.Aw Go.Aw.Sha
set_option linter.unusedVariables false
set_option linter.unusedSimpArgs false
set_option maxRecDepth 8000
attribute [local irreducible] sum
theorem sum1_c (l : List Nat) (e1 e : Bool) (h : l.length ≤ 500000000) : PCall Tryz.prog 71 [.p (.sl 1 [[bytesP l e1]] e)] (.a ((sum l).map bc)) := by
  have := sum_c [(l, e1)] e ⟨by simpa using h, by simp⟩
  rwa [show ([(l, e1)] : List (List Nat × Bool)).flatMap (·.1) = l by simp] at this
theorem sum2_c (a b : List Nat) (e1 e2 e : Bool) (h : a.length + b.length ≤ 500000000) : PCall Tryz.prog 71 [.p (.sl 1 [[bytesP a e1], [bytesP b e2]] e)] (.a ((sum (a ++ b)).map bc)) := by
  have := sum_c [(a, e1), (b, e2)] e ⟨by simpa using h, by simp⟩
  rwa [show ([(a, e1), (b, e2)] : List (List Nat × Bool)).flatMap (·.1) = a ++ b by simp] at this
instance {l : List Nat} {e1 e : Bool} : PC Tryz.prog 71 [.p (.sl 1 [[bytesP l e1]] e)] (l.length ≤ 500000000) (.a ((sum l).map bc)) := ⟨sum1_c l e1 e⟩
/-- a leaf's texts: a zero byte, and what is given -/
instance {b : List Nat} {e2 e : Bool} : PC Tryz.prog 71 [.p (.sl 1 [[.sl 1 [[.v (.int .u8 0)]] true], [bytesP b e2]] e)] (b.length ≤ 400000000) (.a ((sum (0 :: b)).map bc)) := ⟨fun h => sum2_c [0] b true e2 e (by simp only [List.length_cons, List.length_nil]; omega)⟩
end Go.Proofs.YtlaeldgebecppaaGreat.Sh
namespace Go.Proofs.YtlaeldgebecppaaGreat.Rg
open Go Go.RowKit Go.Aw Go.Aw.Sha Go.Aw.Cart Go.Aw.Ord Go.Sort Go.Proofs.YtlaeldgebecppaaGreat.Ca Go.Proofs.YtlaeldgebecppaaGreat.Sh
set_option linter.unusedVariables false
set_option linter.unusedSimpArgs false
set_option maxRecDepth 8000
set_option maxHeartbeats 4000000
attribute [local irreducible] sum
/-- the first bytes as a number, the greatest ahead -/
def pv (S : List Nat) : Nat → Nat
  | 0 => 0
  | j + 1 => pv S j * 256 + S.getD j default
def pointF (b : List Nat) : Nat := pv (sum b) 8
theorem sum_okB (b : List Nat) : okB (sum b) := by
  unfold sum digest
  intro x hx
  obtain ⟨i, _, rfl⟩ := List.mem_map.1 hx
  exact Nat.mod_lt _ (by decide)
theorem getD_ok {S : List Nat} (h : okB S) (j : Nat) : S.getD j default < 256 := by
  rw [List.getD_eq_getElem?_getD]
  cases hj : S[j]? with
  | none => exact (by decide : 0 < 256)
  | some x => exact h x (List.mem_of_getElem? hj)
theorem pv_lt {S : List Nat} (h : okB S) : ∀ j, pv S j < 256 ^ j
  | 0 => Nat.one_pos
  | j + 1 => by
    have := pv_lt h j
    have := getD_ok h j
    rw [pv, Nat.pow_succ]; omega
theorem pv_fit {S : List Nat} (h : okB S) {j : Nat} (hj : j ≤ 8) : pv S j < 18446744073709551616 :=
  Nat.lt_of_lt_of_le (pv_lt h j) (show 256 ^ j ≤ 256 ^ 8 from Nat.pow_le_pow_right (by decide) hj)
/-- one byte more, as the machine does it -/
theorem byte_in {a c M : Nat} (ha : a * 256 + c < M) (hc : c < 256) : ((a * 256) % M % M ||| c % M % M) = a * 256 + c := by
  have h1 : c < M := by omega
  have h2 : a * 256 < M := Nat.lt_of_le_of_lt (Nat.le_add_right _ c) ha
  rw [Nat.mod_eq_of_lt h1, Nat.mod_eq_of_lt h1, Nat.mod_eq_of_lt h2, Nat.mod_eq_of_lt h2]
  have := Nat.shiftLeft_add_eq_or_of_lt (i := 8) (show c < 2 ^ 8 from hc) a
  rw [Nat.shiftLeft_eq] at this
  exact this.symm
/-- an own array's first places as a slice -/
theorem lop_sl_arh {C : Ctx} {o : Oper} {σ : St} {T e : TypeId} {x y : Operand} {n sz by_ : Nat} {ke : TK} {sze be : Nat} {ob g off : Nat} {k : IntKind} {m : Int} (ho : o.op = .slice T x none (some y) none) (hT : TI C.P T (.array n e) sz by_) (he : TI C.P e ke sze be) (hx : σ.look x = .o (.ptr ob g off)) (hy : σ.look y = .p (.v (.int k m))) (h0 : 0 ≤ m) (hm : m ≤ n) (hd : dOk C o.dst = true) :
    LOp C o σ ⟨.o (.asl ob g off m.toNat n), []⟩ (fun _ => false) :=
  lop_val hd fun τ a w G hl hm' h => by
    obtain ⟨b, c, h1, h2⟩ := look_of h ((hl x (by simp [ho, Op.operands])).trans hx)
    have e2 := val_of h ((hl y (by simp [ho, Op.operands])).trans hy)
    obtain ⟨d, hdd, hk⟩ := hT.undd
    have : d = .array n e := by cases d <;> simp [TK.of] at hk; rw [hk.1, hk.2]
    subst this
    refine ⟨.slice (some ⟨b, off, none⟩) m.toNat n, ?_, b, c, h1, rfl⟩
    simp [execOp, ho, h2, e2, Instr.sliceAt, Instr.sureAddr, run_underlying hdd, Instr.sliceBounds, run_sb (y := n) h0 hm, he.run_sizeOf, Addr.add]
namespace P6
theorem lopC {C : Ctx} {o : Oper} {σ : St} {e : Eff} {ro : Nat → Bool} (h : LOp C o σ e ro := by
    first
      | exact lop_wadd' rfl rfl rfl (by with_reducible (first | rfl | exact lit_nat _ | exact ofn_nat _)) (by with_reducible (first | rfl | exact lit_nat _ | exact ofn_nat _)) rfl rfl
            | exact lop_wmul' rfl rfl rfl (by with_reducible (first | rfl | exact lit_nat _ | exact ofn_nat _)) (by with_reducible (first | rfl | exact lit_nat _ | exact ofn_nat _)) rfl rfl
            | exact lop_wsub' rfl rfl rfl (by with_reducible (first | rfl | exact lit_nat _ | exact ofn_nat _)) (by with_reducible (first | rfl | exact lit_nat _ | exact ofn_nat _)) rfl rfl
            | exact lop_wquo' rfl rfl rfl (by with_reducible (first | rfl | exact lit_nat _ | exact ofn_nat _)) (by with_reducible (first | rfl | exact lit_nat _ | exact ofn_nat _)) (by decide) rfl rfl
            | exact lop_wrem' rfl rfl rfl (by with_reducible (first | rfl | exact lit_nat _ | exact ofn_nat _)) (by with_reducible (first | rfl | exact lit_nat _ | exact ofn_nat _)) (by decide) rfl
            | exact lop_wand' rfl rfl rfl (by with_reducible (first | rfl | exact lit_nat _ | exact ofn_nat _)) (by with_reducible (first | rfl | exact lit_nat _ | exact ofn_nat _)) rfl rfl
            | exact lop_wor' rfl rfl rfl (by with_reducible (first | rfl | exact lit_nat _ | exact ofn_nat _)) (by with_reducible (first | rfl | exact lit_nat _ | exact ofn_nat _)) rfl rfl
            | exact lop_wxor' rfl rfl rfl (by with_reducible (first | rfl | exact lit_nat _ | exact ofn_nat _)) (by with_reducible (first | rfl | exact lit_nat _ | exact ofn_nat _)) rfl rfl
            | exact lop_wnot' rfl rfl (by with_reducible (first | rfl | exact lit_nat _ | exact ofn_nat _)) rfl rfl
            | exact lop_wshr' rfl rfl (by with_reducible (first | rfl | exact lit_nat _ | exact ofn_nat _)) rfl (by first | decide | omega) (by first | decide | (simp only [IntKind.bits]; omega)) rfl
            | exact lop_wshl' rfl rfl (by with_reducible (first | rfl | exact lit_nat _ | exact ofn_nat _)) rfl (by first | decide | omega) (by first | decide | (simp only [IntKind.bits]; omega)) rfl rfl
            | (apply lop_wconv'; (focus rfl); (focus exact inferInstance); (focus exact inferInstance); (focus rfl); (focus exact (by with_reducible (first | rfl | exact lit_nat _ | exact ofn_nat _))); (focus rfl); (focus rfl))
      | (apply lop_sl_arh; (focus rfl); (focus exact inferInstance); (focus exact inferInstance); (focus rfl); (focus rfl); (focus decide); (focus decide); (focus rfl))
      | exact lop_len_asl rfl rfl rfl
      | exact lopQ
      | fail) : LOp C o σ e ro := h
section steps
variable {C : Ctx} {ops : Array Oper} {o : Oper} {rest : List Oper} {K : St → Prop} {σ : St} {e : Eff} {ro : Nat → Bool} {W : List (Nat × Nat)} {i : Nat}
theorem rnC {d : Nat} (hk : RunN C ops rest K (e.app (some d) σ)) (hg : Guard ops σ o true := by first | exact gd_n rfl rfl | exact gd_t rfl rfl rfl rfl | exact gd_t rfl rfl rfl (by assumption)) (hd : o.dst = some d := by rfl) (h : LOp C o σ e ro := by exact lopC) : RunN C ops (o :: rest) K σ := rn_any hg hd h hk
end steps
end P6
open P6
theorem shaPoint_w (b : List Nat) (ex : Bool) (h : b.length ≤ 500000000) : PCall Tryz.prog 210 [bytesN b ex] (.p (.k .u64 (pointF b : Int))) := by
  refine pcall_of Tryz.func210 rfl (fun w0 F S0 M0 => ?_)
  obtain ⟨S, hS⟩ : ∃ S, S = sum b := ⟨_, rfl⟩
  have hSl : S.length = 32 := by rw [hS]; exact sum_len b
  have hSo : okB S := by rw [hS]; exact sum_okB b
  haveI : PC Tryz.prog 71 [.p (.sl 1 [[bytesP b ex]] true)] True (.a (S.map bc)) := ⟨fun _ => by rw [hS]; exact sum1_c b ex true h⟩
  rw [show pointF b = pv S 8 by rw [hS]; rfl]
  clear hS
  repeat' (first | refine rnC ?_ | refine rnSB ?_ | refine rnG ?_ | refine rnU ?_ | ((fail_if_success (refine rnKn ?_)); refine rnP ?_ ?_ <;> (intro hq; try (have hq' := hq; simp only [hqs] at hq'))) | refine rkC ?_ | refine rkSB ?_ | refine rkF ?_ | refine rkU ?_ | ((fail_if_success (refine rkKn ?_)); refine rkP ?_ ?_ <;> (intro hq; try (have hq' := hq; simp only [hqs] at hq'))) | refine stp ?_ | refine ifT ?_ | refine ifF ?_ | (refine ifQ ?_ ?_ <;> (try (intro hn))) | (refine ifB ?_ ?_ <;> (intro hq; try (have hq' := hq; simp only [hqs] at hq'))))
  refine aws_loopS [3, 6, 12, 13, 14, 15, 16, 17, 18, 19, 20, 21] [] (fun (i : Nat) => [(12, .p (.i i)), (3, .p (.k .u64 (pv S i : Int)))]) (fun _ => []) (fun i => i ≤ 8) (fun i => 8 - i) 0 (Nat.zero_le _) (by exact knA) (by exact knA) ?_
  rintro i β γ hi
  by_cases hil : i < 8
  · have d1 : decide ((i : Int) < 8) = true := decide_eq_true (by omega)
    as_aux_lemma =>
      repeat' (first | refine rnC ?_ | refine rnSB ?_ | refine rnG ?_ | refine rnU ?_ | ((fail_if_success (refine rnKn ?_)); refine rnP ?_ ?_ <;> (intro hq; try (have hq' := hq; simp only [hqs] at hq'))) | refine rkC ?_ | refine rkSB ?_ | refine rkF ?_ | refine rkU ?_ | ((fail_if_success (refine rkKn ?_)); refine rkP ?_ ?_ <;> (intro hq; try (have hq' := hq; simp only [hqs] at hq'))) | refine stp ?_ | refine ifT ?_ | refine ifF ?_ | (refine ifQ ?_ ?_ <;> (try (intro hn))) | (refine ifB ?_ ?_ <;> (intro hq; try (have hq' := hq; simp only [hqs] at hq'))))
      refine ⟨i + 1, _, by omega, (by show i + 1 ≤ 8; omega), .refl, ?_⟩
      have e : pv S (i + 1) = (pv S i * 2 ^ (8 : Int).toNat) % md .u64 % md .u64 ||| S.getD (i : Int).toNat default % md .u64 % md .u64 := by
        rw [pv, Int.toNat_natCast]
        exact (byte_in (M := md .u64) (by have := pv_fit hSo (show i + 1 ≤ 8 by omega); rwa [pv] at this) (getD_ok hSo i)).symm
      try dsimp only
      rw [e]
      exact frA
  · have d1 : decide ((i : Int) < 8) = false := decide_eq_false (by omega)
    obtain rfl : i = 8 := by omega
    as_aux_lemma =>
      repeat' (first | refine rnC ?_ | refine rnSB ?_ | refine rnG ?_ | refine rnU ?_ | ((fail_if_success (refine rnKn ?_)); refine rnP ?_ ?_ <;> (intro hq; try (have hq' := hq; simp only [hqs] at hq'))) | refine rkC ?_ | refine rkSB ?_ | refine rkF ?_ | refine rkU ?_ | ((fail_if_success (refine rkKn ?_)); refine rkP ?_ ?_ <;> (intro hq; try (have hq' := hq; simp only [hqs] at hq'))) | refine stp ?_ | refine ifT ?_ | refine ifF ?_ | (refine ifQ ?_ ?_ <;> (try (intro hn))) | (refine ifB ?_ ?_ <;> (intro hq; try (have hq' := hq; simp only [hqs] at hq'))))
      exact rt1 rfl rfl finS_p rfl
end Go.Proofs.YtlaeldgebecppaaGreat.Rg
