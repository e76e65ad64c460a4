/- wire: a writer -/
import Derived.Test.YtclcfjejpogdlaaGreatIB14
import Derived.Test.YtclcfjejpogdlaaGreatIB07
namespace Go.Proofs.YtclcfjejpogdlaaGreat.Wi
open Go Go.RowKit Go.Aw
set_option linter.unusedVariables false
set_option linter.unusedSimpArgs false
set_option maxRecDepth 8000
set_option maxHeartbeats 4000000
abbrev bR (n : Nat) : List PVal := [.k .u8 (n : Int)]
/-- a writer of such bytes -/
abbrev wrA (bs : List Nat) : AObj := pkA 175 [] [] 5 1 (bs.map bR)
theorem lop_ap_byte {C : Ctx} {o : Oper} {σ : St} {T e : TypeId} {x y : Operand} {sz by_ es be : Nat} {ke : TK} {l : List Nat} {z : List Value} {ey : Bool} {ob g n len : Nat} {v : Nat} (ho : o.op = .call ⟨.builtin .append, #[x, y], #[T, T]⟩) (hT : TI C.P T (.slice e) sz by_) (he : TI C.P e ke es be) (hz : TZ C.P e z) (hx : σ.look x = .o (.osl ob g es 0 len)) (hm : σ.mem ob = (n, some (.buf e es (l.map bR)))) (hn : n = g + 1) (hlr : len = l.length)
    (hy : σ.look y = .p (.sl es [[.k .u8 (v : Int)]] ey)) (hzl : z.length = es) (h63 : l.length + 1 ≤ maxLen) (hby : (l.length + 1) * be ≤ 140737488355328) (hd : dOk C o.dst = true) :
    LOp C o σ ⟨.o (.osl ob n es 0 (l ++ [v]).length), [(ob, (n + 1, some (.buf e es ((l ++ [v]).map bR))))]⟩ (fun q => q == ob) := lop_ap_o1 (f := bR) (v := v) ho hT he hz hx hm hn hlr hy rfl hzl h63 hby hd
theorem lop_bs8 {C : Ctx} {o : Oper} {σ : St} {T e : TypeId} {x0 : Operand} {sz by_ es be : Nat} {ke : TK} {z : List Value} {p0 : PVal} (ho : o.op = .buildSlice T 1 #[(0, x0)]) (hT : TI C.P T (.slice e) sz by_) (he : TI C.P e ke es be) (hz : TZ C.P e z) (h0 : σ.look x0 = .p p0) (hes : es = 1) (hd : dOk C o.dst = true) :
    LOp C o σ ⟨.p (.sl 1 [[p0]] true), []⟩ (fun _ => false) := by
  subst hes
  exact lop_buildSlice (ps := [(0, [p0])]) ho (.cons ⟨rfl, by simp, _, h0, by simp [SV.cells]⟩ .nil) rfl (by omega) (by omega) hd
theorem says_unpack' {C : Ctx} {σ : St} {p np ty o n tyB es len : Nat} {mo : Option MO} {pre post : List PVal} {cs : List AC} {rows : List (List PVal)} (hp : σ.mem p = (np, some (.abs (pkA ty pre post tyB es rows)))) (hm : σ.mem o = (n, mo)) (hl : rows.length = len) (hcs : pre.map .p ++ .osl o n es 0 len :: post.map .p = cs) (hne : p ≠ o) :
    Says C σ ((σ.put o (n + 1, some (.buf tyB es rows))).put p (np, some (.box ty cs))) := by
  subst hl; exact says_unpack hp hm hcs hne
namespace W2
theorem lopC {C : Ctx} {o : Oper} {σ : St} {e : Eff} {ro : Nat → Bool} (h : LOp C o σ e ro := by
    first
      | exact lop_wadd' rfl rfl rfl (by with_reducible (first | rfl | exact lit_nat _ | exact ofn_nat _)) (by with_reducible (first | rfl | exact lit_nat _ | exact ofn_nat _)) rfl rfl
            | exact lop_wmul' rfl rfl rfl (by with_reducible (first | rfl | exact lit_nat _ | exact ofn_nat _)) (by with_reducible (first | rfl | exact lit_nat _ | exact ofn_nat _)) rfl rfl
            | exact lop_wsub' rfl rfl rfl (by with_reducible (first | rfl | exact lit_nat _ | exact ofn_nat _)) (by with_reducible (first | rfl | exact lit_nat _ | exact ofn_nat _)) rfl rfl
            | exact lop_wquo' rfl rfl rfl (by with_reducible (first | rfl | exact lit_nat _ | exact ofn_nat _)) (by with_reducible (first | rfl | exact lit_nat _ | exact ofn_nat _)) (by decide) rfl rfl
            | exact lop_wrem' rfl rfl rfl (by with_reducible (first | rfl | exact lit_nat _ | exact ofn_nat _)) (by with_reducible (first | rfl | exact lit_nat _ | exact ofn_nat _)) (by decide) rfl
            | exact lop_wand' rfl rfl rfl (by with_reducible (first | rfl | exact lit_nat _ | exact ofn_nat _)) (by with_reducible (first | rfl | exact lit_nat _ | exact ofn_nat _)) rfl rfl
            | exact lop_wor' rfl rfl rfl (by with_reducible (first | rfl | exact lit_nat _ | exact ofn_nat _)) (by with_reducible (first | rfl | exact lit_nat _ | exact ofn_nat _)) rfl rfl
            | exact lop_wxor' rfl rfl rfl (by with_reducible (first | rfl | exact lit_nat _ | exact ofn_nat _)) (by with_reducible (first | rfl | exact lit_nat _ | exact ofn_nat _)) rfl rfl
            | exact lop_wnot' rfl rfl (by with_reducible (first | rfl | exact lit_nat _ | exact ofn_nat _)) rfl rfl
            | exact lop_wshr' rfl rfl (by with_reducible (first | rfl | exact lit_nat _ | exact ofn_nat _)) rfl (by first | decide | omega) (by first | decide | (simp only [IntKind.bits]; omega)) rfl
            | exact lop_wshl' rfl rfl (by with_reducible (first | rfl | exact lit_nat _ | exact ofn_nat _)) rfl (by first | decide | omega) (by first | decide | (simp only [IntKind.bits]; omega)) rfl rfl
            | (apply lop_wconv'; (focus rfl); (focus exact inferInstance); (focus exact inferInstance); (focus rfl); (focus exact (by with_reducible (first | rfl | exact lit_nat _ | exact ofn_nat _))); (focus rfl); (focus rfl))
      | (apply lop_bs8; (focus rfl); (focus exact inferInstance); (focus exact inferInstance); (focus exact inferInstance); (focus rfl); (focus rfl); (focus rfl))
      | (apply lop_ap_byte; (focus rfl); (focus exact inferInstance); (focus exact inferInstance); (focus exact inferInstance); (focus rfl); (focus rfl); (focus rfl); (focus rfl); (focus rfl); (focus rfl); (focus first | (simp only [maxLen, List.length_append, List.length_cons, List.length_nil, List.length_take, List.length_drop, List.length_map]; omega) | omega); (focus first | (simp only [maxLen, List.length_append, List.length_cons, List.length_nil, List.length_take, List.length_drop, List.length_map]; omega) | omega); (focus rfl))
      | (apply gField; (focus rfl); first | exact lop_fieldAddr_p rfl rfl (by decide) rfl rfl | exact lop_fieldAddr_bx rfl rfl (by decide) rfl rfl)
            | (apply lop_bsa; (focus rfl); (focus exact inferInstance); (focus exact inferInstance); (focus exact inferInstance); (focus repeat' (first | exact All2.nil | (apply bs_cons; (focus rfl); (focus rfl); (focus rfl)))); (focus rfl); (focus decide); (focus first | decide | omega); (focus rfl); (focus rfl))
            | (apply lop_mfa1; (focus rfl); (focus rfl); (focus rfl); (focus rfl); (focus rfl); (focus rfl))
            | (apply lop_mfa2; (focus rfl); (focus rfl); (focus rfl); (focus rfl); (focus rfl); (focus rfl); (focus rfl); (focus rfl); (focus rfl); (focus decide); (focus rfl))
            | (apply lop_mfa3; (focus rfl); (focus rfl); (focus rfl); (focus rfl); (focus rfl); (focus rfl); (focus rfl); (focus rfl); (focus rfl); (focus rfl); (focus rfl); (focus rfl); (focus rfl); (focus decide); (focus decide); (focus decide); (focus rfl))
            | (apply gLoad; (focus rfl); apply lop_ld_bxp; (focus rfl); (focus exact inferInstance); (focus rfl); (focus rfl); (focus rfl); (focus rfl); (focus rfl))
      | exact lopJ
      | fail) : LOp C o σ e ro := h
section steps
variable {C : Ctx} {ops : Array Oper} {o : Oper} {rest : List Oper} {K : St → Prop} {σ : St} {e : Eff} {ro : Nat → Bool} {W : List (Nat × Nat)} {i : Nat}
theorem rnC {d : Nat} (hk : RunN C ops rest K (e.app (some d) σ)) (hg : Guard ops σ o true := by first | exact gd_n rfl rfl | exact gd_t rfl rfl rfl rfl | exact gd_t rfl rfl rfl (by assumption)) (hd : o.dst = some d := by rfl) (h : LOp C o σ e ro := by exact lopC) : RunN C ops (o :: rest) K σ := rn_any hg hd h hk
theorem rkC {d : Nat} (hk : RunK C ops W (i + 1) rest K (e.app (some d) σ)) (hg : Guard ops σ o true := by first | exact gd_n rfl rfl | exact gd_t rfl rfl rfl rfl | exact gd_t rfl rfl rfl (by assumption)) (hd' : o.dst = some d := by rfl) (hd : dOk C o.dst = true := by rfl) (h : LOp C o σ e ro := by exact lopC)
    (hro : ∀ x, ro x = true → okObj ops W i x = true := by first | exact fun _ => ro_none | exact ro_one rfl | exact ro_k1 rfl | exact ro_one (by kernel_rfl) | exact ro_k1 (by kernel_rfl) | exact ro_kIn (by decide)) (hob : ∀ p ∈ e.obj, (i, p.1) ∈ W := by first | exact ob_none | exact ob_one (by decide) | decide) : RunK C ops W i (o :: rest) K σ := rk_wr hg hd' hd h hro hob hk
end steps
end W2
open W2
theorem num_o (n : Nat) (bs : List Nat) (x : Nat) (hx : x < 18446744073709551616) (h : bs.length ≤ 1000000000) : OCall Tryz.prog 93 [.o (.ptr 1000 n 0), .p (.k .u64 (x : Int))] (memL [(1000, (n + 1, some (.abs (wrA bs))))]) (.tup []) (memL [(1000, (n + 1, some (.abs (wrA (bs ++ numB x)))))]) := by
  refine ocall_of1 Tryz.func93 rfl (fun w0 F S0 M0 => ?_)
  refine aws_says (says_unpack' (p := 1000) (o := 901) rfl rfl (List.length_map _) rfl (by decide)) ?_
  repeat' (first | refine rnC ?_ | refine rnSB ?_ | refine rnG ?_ | refine rnU ?_ | ((fail_if_success (refine rnKn ?_)); refine rnP ?_ ?_ <;> (intro hq; try (have hq' := hq; simp only [hqs] at hq'))) | refine rkC ?_ | refine rkSB ?_ | refine rkF ?_ | refine rkU ?_ | ((fail_if_success (refine rkKn ?_)); refine rkP ?_ ?_ <;> (intro hq; try (have hq' := hq; simp only [hqs] at hq'))) | refine stp ?_ | refine ifT ?_ | refine ifF ?_ | (refine ifQ ?_ ?_ <;> (try (intro hn))) | (refine ifB ?_ ?_ <;> (intro hq; try (have hq' := hq; simp only [hqs] at hq'))))
  refine aws_loopS [4, 5, 10, 11, 12, 13, 14, 15] [] (fun (s : Nat × Nat) => [(4, .p (.i s.1)), (5, .p (.k .u64 (s.2 : Int)))]) (fun _ => []) (fun s => s.1 ≤ 8 ∧ s.2 < 256 ^ (8 - s.1) ∧ (be x).length = s.1 + (beF (8 - s.1) s.2).length) (fun s => 8 - s.1) (0, x) ⟨Nat.zero_le _, hx, by rw [Nat.zero_add]; rfl⟩ (by exact knA) (by exact knA) ?_
  rintro ⟨k, m⟩ β γ ⟨hk, hm, hl⟩
  simp only at hk hm hl
  dsimp only
  by_cases h0 : 0 < m
  · have d1 : decide (0 < (m : Int)) = true := decide_eq_true (by omega)
    have hk8 : k < 8 := by
      rcases Nat.lt_or_ge k 8 with q | q
      · exact q
      · rw [show 8 - k = 0 by omega, Nat.pow_zero] at hm; omega
    as_aux_lemma =>
      repeat' (first | refine rnC ?_ | refine rnSB ?_ | refine rnG ?_ | refine rnU ?_ | ((fail_if_success (refine rnKn ?_)); refine rnP ?_ ?_ <;> (intro hq; try (have hq' := hq; simp only [hqs] at hq'))) | refine rkC ?_ | refine rkSB ?_ | refine rkF ?_ | refine rkU ?_ | ((fail_if_success (refine rkKn ?_)); refine rkP ?_ ?_ <;> (intro hq; try (have hq' := hq; simp only [hqs] at hq'))) | refine stp ?_ | refine ifT ?_ | refine ifF ?_ | (refine ifQ ?_ ?_ <;> (try (intro hn))) | (refine ifB ?_ ?_ <;> (intro hq; try (have hq' := hq; simp only [hqs] at hq'))))
      refine ⟨(k + 1, m / 2 ^ (8 : Int).toNat), _, by dsimp only; omega, ⟨by dsimp only; omega, ?_, ?_⟩, .refl, by exact frA⟩
      · show m / 256 < _
        rw [show 8 - k = (8 - (k + 1)) + 1 by omega, Nat.pow_succ] at hm
        exact Nat.div_lt_of_lt_mul (by rw [Nat.mul_comm]; exact hm)
      · show _ = k + 1 + (beF (8 - (k + 1)) (m / 256)).length
        rw [hl, show 8 - k = (8 - (k + 1)) + 1 by omega, beF_step (by omega)]; omega
  · have d1 : decide (0 < (m : Int)) = false := decide_eq_false (by omega)
    obtain rfl : m = 0 := by omega
    rw [beF_zero, List.length_nil, Nat.add_zero] at hl
    repeat' (first | refine rnC ?_ | refine rnSB ?_ | refine rnG ?_ | refine rnU ?_ | ((fail_if_success (refine rnKn ?_)); refine rnP ?_ ?_ <;> (intro hq; try (have hq' := hq; simp only [hqs] at hq'))) | refine rkC ?_ | refine rkSB ?_ | refine rkF ?_ | refine rkU ?_ | ((fail_if_success (refine rkKn ?_)); refine rkP ?_ ?_ <;> (intro hq; try (have hq' := hq; simp only [hqs] at hq'))) | refine stp ?_ | refine ifT ?_ | refine ifF ?_ | (refine ifQ ?_ ?_ <;> (try (intro hn))) | (refine ifB ?_ ?_ <;> (intro hq; try (have hq' := hq; simp only [hqs] at hq'))))
    refine aws_loopS [6, 29, 30, 31, 32, 33, 34, 35, 36, 37, 38, 39, 40, 41, 42, 43, 44, 45, 46] [1000, 901] (fun (s : Nat × Int × List Nat) => [(6, .p (.i s.2.1))])
      (fun s => [(1000, (n + 1, some (.box 175 [.osl 901 (s.1 + 1) 1 0 s.2.2.length]))), (901, (s.1 + 2, some (.buf 5 1 (s.2.2.map bR))))])
      (fun s => s.1 ≤ k ∧ s.2.1 = (k : Int) - 1 - s.1 ∧ s.2.2 = bs ++ [k % md .u8] ++ (be x).take s.1) (fun s => k - s.1) (0, (k : Int) - 1, bs ++ [k % md .u8]) ⟨Nat.zero_le _, by simp, by simp⟩ (by exact knA) (by exact knA) ?_
    rintro ⟨j, i, L⟩ β γ ⟨hj, hi, hL⟩
    dsimp only at hj hi hL ⊢
    have hll : L.length ≤ 1000000100 := by
      rw [hL, List.length_append, List.length_append, List.length_singleton, List.length_take]; omega
    by_cases hjk : j < k
    · have d2 : decide (0 ≤ i) = true := decide_eq_true (by omega)
      repeat' (first | refine rnC ?_ | refine rnSB ?_ | refine rnG ?_ | refine rnU ?_ | ((fail_if_success (refine rnKn ?_)); refine rnP ?_ ?_ <;> (intro hq; try (have hq' := hq; simp only [hqs] at hq'))) | refine rkC ?_ | refine rkSB ?_ | refine rkF ?_ | refine rkU ?_ | ((fail_if_success (refine rkKn ?_)); refine rkP ?_ ?_ <;> (intro hq; try (have hq' := hq; simp only [hqs] at hq'))) | refine stp ?_ | refine ifT ?_ | refine ifF ?_ | (refine ifQ ?_ ?_ <;> (try (intro hn))) | (refine ifB ?_ ?_ <;> (intro hq; try (have hq' := hq; simp only [hqs] at hq'))))
      refine aws_draws [(11, 901), (14, 1000)] mixed (by kernel_rfl) ?_
      repeat' (first | refine rk_nil ?_ | refine rkC ?_ | refine rkSB ?_ | refine rkF ?_ | refine rkU ?_ | ((fail_if_success (refine rkKn ?_)); refine rkP ?_ ?_ <;> (intro hq; try (have hq' := hq; simp only [hqs] at hq'))))
      as_aux_lemma =>
        repeat' (first | refine rnC ?_ | refine rnSB ?_ | refine rnG ?_ | refine rnU ?_ | ((fail_if_success (refine rnKn ?_)); refine rnP ?_ ?_ <;> (intro hq; try (have hq' := hq; simp only [hqs] at hq'))) | refine rkC ?_ | refine rkSB ?_ | refine rkF ?_ | refine rkU ?_ | ((fail_if_success (refine rkKn ?_)); refine rkP ?_ ?_ <;> (intro hq; try (have hq' := hq; simp only [hqs] at hq'))) | refine stp ?_ | refine ifT ?_ | refine ifF ?_ | (refine ifQ ?_ ?_ <;> (try (intro hn))) | (refine ifB ?_ ?_ <;> (intro hq; try (have hq' := hq; simp only [hqs] at hq'))))
        refine ⟨(j + 1, i - 1, L ++ [x / 2 ^ (8 * i).toNat % md .u8]), _, by dsimp only; omega, ⟨by dsimp only; omega, by dsimp only; omega, ?_⟩, .refl, by exact frA⟩
        dsimp only
        rw [be_take (by omega), ← List.append_assoc, hL, hl, show (8 * i).toNat = 8 * (k - 1 - j) by omega, pow8]; rfl
    · have d2 : decide (0 ≤ i) = false := decide_eq_false (by omega)
      obtain rfl : j = k := by omega
      have e : bs ++ numB x = L := by
        rw [hL, List.take_of_length_le (by omega), show j % md .u8 = j from Nat.mod_eq_of_lt (by show j < 256; omega), numB, hl, List.append_assoc]; rfl
      rw [e]
      refine aws_says (says_pack (p := 1000) (o := 901) (pre := []) (post := []) rfl rfl rfl (by omega) (by rw [List.length_map]) (by decide)) ?_
      as_aux_lemma =>
        repeat' (first | refine rnC ?_ | refine rnSB ?_ | refine rnG ?_ | refine rnU ?_ | ((fail_if_success (refine rnKn ?_)); refine rnP ?_ ?_ <;> (intro hq; try (have hq' := hq; simp only [hqs] at hq'))) | refine rkC ?_ | refine rkSB ?_ | refine rkF ?_ | refine rkU ?_ | ((fail_if_success (refine rkKn ?_)); refine rkP ?_ ?_ <;> (intro hq; try (have hq' := hq; simp only [hqs] at hq'))) | refine stp ?_ | refine ifT ?_ | refine ifF ?_ | (refine ifQ ?_ ?_ <;> (try (intro hn))) | (refine ifB ?_ ?_ <;> (intro hq; try (have hq' := hq; simp only [hqs] at hq'))))
        exact RetO.mk (res0 rfl rfl) ⟨.abs, trivial⟩
instance {c g n : Nat} {bs : List Nat} {x : Nat} : OC Tryz.prog 93 [.o (.ptr c g 0), .p (.k .u64 (x : Int))] [(c, (n, some (.abs (wrA bs))))] [] (n = g + 1 ∧ x < 18446744073709551616 ∧ bs.length ≤ 1000000000) (.tup []) [(c, (n, some (.abs (wrA (bs ++ numB x)))))] := ⟨fun h => by obtain ⟨rfl, h1, h2⟩ := h; exact (num_o g bs x h1 h2).one c⟩
end Go.Proofs.YtclcfjejpogdlaaGreat.Wi
