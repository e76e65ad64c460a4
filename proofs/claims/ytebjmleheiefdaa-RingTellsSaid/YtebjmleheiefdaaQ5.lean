/- rings: owners, a part's list, who holds what; rings: who holds what; a ring that is nil -/
import Derived.Test.YtebjmleheiefdaaQ4
namespace Go.Proofs.Ytebjmleheiefdaa.Rg
open Go Go.RowKit Go.Aw Go.Aw.Cart Go.Aw.Ord Go.Sort Go.Proofs.Ytebjmleheiefdaa.Ca
set_option linter.unusedVariables false
set_option linter.unusedSimpArgs false
set_option maxRecDepth 8000
set_option maxHeartbeats 4000000
theorem lop_max_q {C : Ctx} {o : Oper} {σ : St} {x y : Operand} {T1 T2 : TypeId} {k : IntKind} {m n r : Int} (ho : o.op = .call ⟨.builtin .max, #[x, y], #[T1, T2]⟩) (hx : σ.look x = .p (.v (.int k m))) (hy : σ.look y = .p (.v (.int k n))) (h : (if m < n then n else m) = r) (hd : dOk C o.dst = true) : LOp C o σ ⟨.p (.v (.int k r)), []⟩ (fun _ => false) := h ▸ lop_max ho hx hy hd
namespace PB
theorem lopC {C : Ctx} {o : Oper} {σ : St} {e : Eff} {ro : Nat → Bool} (h : LOp C o σ e ro := by
    first
      | (apply lop_max_q; (focus rfl); (focus rfl); (focus rfl); (focus assumption); (focus rfl))
      | exact PA.lopC
      | fail) : LOp C o σ e ro := h
section steps
variable {C : Ctx} {ops : Array Oper} {o : Oper} {rest : List Oper} {K : St → Prop} {σ : St} {e : Eff} {ro : Nat → Bool} {W : List (Nat × Nat)} {i : Nat}
theorem rnC {d : Nat} (hk : RunN C ops rest K (e.app (some d) σ)) (hg : Guard ops σ o true := by first | exact gd_n rfl rfl | exact gd_t rfl rfl rfl rfl | exact gd_t rfl rfl rfl (by assumption)) (hd : o.dst = some d := by rfl) (h : LOp C o σ e ro := by exact lopC) : RunN C ops (o :: rest) K σ := rn_any hg hd h hk
theorem rkC {d : Nat} (hk : RunK C ops W (i + 1) rest K (e.app (some d) σ)) (hg : Guard ops σ o true := by first | exact gd_n rfl rfl | exact gd_t rfl rfl rfl rfl | exact gd_t rfl rfl rfl (by assumption)) (hd' : o.dst = some d := by rfl) (hd : dOk C o.dst = true := by rfl) (h : LOp C o σ e ro := by exact lopC)
    (hro : ∀ x, ro x = true → okObj ops W i x = true := by first | exact fun _ => ro_none | exact ro_one rfl | exact ro_k1 rfl | exact ro_one (by kernel_rfl) | exact ro_k1 (by kernel_rfl) | exact ro_kIn (by decide)) (hob : ∀ p ∈ e.obj, (i, p.1) ∈ W := by first | exact ob_none | exact ob_one (by decide) | decide) : RunK C ops W i (o :: rest) K σ := rk_wr hg hd' hd h hro hob hk
end steps
end PB
open PB
theorem owners1_o (q n v r : Nat) (hn : n ≤ 8) (hv : v ≤ 16) : OCall Try.prog 13 [.o (.ptr 1000 q 0)] (memL [(1000, (q + 1, some (ringM n v r)))]) (.p (.sl 1 (((pts n v).map (·.2)).map iR) false)) (memL [(1000, (q + 1, some (ringM n v r)))]) := by
  refine ocall_of1 Try.func13 rfl (fun w0 F S0 M0 => ?_)
  have hl : (pts n v).length ≤ 128 := by rw [pts_len]; exact Nat.mul_le_mul hn hv
  haveI : ∀ c g m : Nat, OC Try.prog 21 [.o (.ptr c g 0)] [(c, (m, some (ringM n v r)))] [] (m = g + 1) (.p (.sl 2 ((pts n v).map pR) false)) [(c, (m, some (ringM n v r)))] := fun c g m => ⟨fun h => points_i.call ⟨h, hn, hv⟩⟩
  generalize pts n v = L at *
  repeat' (first
      | refine rnC ?_
      | refine rnSB ?_
      | refine rnG ?_
      | refine rnU ?_
      | ((fail_if_success (refine rnKn ?_)); refine rnP ?_ ?_ <;> (intro hq; try (have hq' := hq; simp only [hqs] at hq')))
      | refine rkC ?_
      | refine rkSB ?_
      | refine rkF ?_
      | refine rkU ?_
      | ((fail_if_success (refine rkKn ?_)); refine rkP ?_ ?_ <;> (intro hq; try (have hq' := hq; simp only [hqs] at hq')))
      | refine stp ?_
      | refine ifT ?_
      | refine ifF ?_
      | (refine ifQ ?_ ?_ <;> (try (intro hn)))
      | (refine ifB ?_ ?_ <;> (intro hq; try (have hq' := hq; simp only [hqs] at hq'))))
  refine aws_says (says_nil (t := 3) (o := 901) (ty := 3) (es := 1) rfl rfl (by decide)) ?_
  refine aws_loopS [3, 5, 9, 10, 11, 12, 13, 14, 15, 16, 17, 18] [5, 901] (fun (x : Nat × Nat × List Int × Option MO) => [(9, .p (.i x.1)), (3, .o (.osl 901 x.2.1 1 0 x.2.2.1.length))]) (fun x => [(5, (x.1, x.2.2.2)), (901, (x.2.1 + 1, some (.buf 3 1 (x.2.2.1.map iR))))])
    (fun x => x.1 ≤ L.length ∧ x.2.2.1 = (L.take x.1).map (·.2)) (fun x => L.length - x.1) (0, 0, [], none) ⟨Nat.zero_le _, rfl⟩ (by exact knA) (by exact knA) ?_
  rintro ⟨i, g, m, c5⟩ β γ ⟨hi, hm⟩
  simp only at hi hm
  have hml : m.length ≤ 128 := by rw [hm, List.length_map, List.length_take]; omega
  dsimp only
  by_cases hil : i < L.length
  · have hd : decide ((i : Int) < (L.length : Int)) = true := decide_eq_true (by omega)
    have ei : (i : Int).toNat = i := Int.toNat_natCast i
    as_aux_lemma =>
      repeat' (first
          | refine rnC ?_
          | refine rnSB ?_
          | refine rnG ?_
          | refine rnU ?_
          | ((fail_if_success (refine rnKn ?_)); refine rnP ?_ ?_ <;> (intro hq; try (have hq' := hq; simp only [hqs] at hq')))
          | refine rkC ?_
          | refine rkSB ?_
          | refine rkF ?_
          | refine rkU ?_
          | ((fail_if_success (refine rkKn ?_)); refine rkP ?_ ?_ <;> (intro hq; try (have hq' := hq; simp only [hqs] at hq')))
          | refine stp ?_
          | refine ifT ?_
          | refine ifF ?_
          | (refine ifQ ?_ ?_ <;> (try (intro hn)))
          | (refine ifB ?_ ?_ <;> (intro hq; try (have hq' := hq; simp only [hqs] at hq'))))
      refine ⟨(i + 1, g + 1, m ++ [(L.getD (i : Int).toNat default).2], _), _, by dsimp only; omega, ⟨by dsimp only; omega, ?_⟩, .refl, by exact frA⟩
      dsimp only
      rw [take_get' hil, List.map_append, hm, ei]; rfl
  · have hd : decide ((i : Int) < (L.length : Int)) = false := decide_eq_false (by omega)
    rw [List.take_of_length_le (by omega)] at hm
    subst hm
    as_aux_lemma =>
      repeat' (first
          | refine rnC ?_
          | refine rnSB ?_
          | refine rnG ?_
          | refine rnU ?_
          | ((fail_if_success (refine rnKn ?_)); refine rnP ?_ ?_ <;> (intro hq; try (have hq' := hq; simp only [hqs] at hq')))
          | refine rkC ?_
          | refine rkSB ?_
          | refine rkF ?_
          | refine rkU ?_
          | ((fail_if_success (refine rkKn ?_)); refine rkP ?_ ?_ <;> (intro hq; try (have hq' := hq; simp only [hqs] at hq')))
          | refine stp ?_
          | refine ifT ?_
          | refine ifF ?_
          | (refine ifQ ?_ ?_ <;> (try (intro hn)))
          | (refine ifB ?_ ?_ <;> (intro hq; try (have hq' := hq; simp only [hqs] at hq'))))
      exact RetO.mk (ot1 rfl rfl (.one (finC_map rfl rfl rfl rfl)) rfl) ⟨.abs, trivial⟩
instance owners1_i {c g m n v r : Nat} : OC Try.prog 13 [.o (.ptr c g 0)] [(c, (m, some (ringM n v r)))] [] (m = g + 1 ∧ n ≤ 8 ∧ v ≤ 16) (.p (.sl 1 (((pts n v).map (·.2)).map iR) false)) [(c, (m, some (ringM n v r)))] := ⟨fun h => by obtain ⟨rfl, h1, h2⟩ := h; exact (owners1_o g n v r h1 h2).one c⟩
/-- a part's list; none of a part that there is not -/
def lstF (n v r : Nat) (part : Int) : List Int := if 0 ≤ part ∧ part < 8 then listF (pts n v) r (2305843009213693952 * part) else []
theorem geP_w (d : Dot) (B : Int) : PCall Try.prog 25 ([pV d] ++ [PVal.bx [.k .u64 B] 0].map .p) (.p (.b (geF B d))) := by
  refine pcall_of Try.func25 rfl (fun w0 F S0 M0 => ?_)
  as_aux_lemma =>
    repeat' (first
        | refine rnC ?_
        | refine rnSB ?_
        | refine rnG ?_
        | refine rnU ?_
        | ((fail_if_success (refine rnKn ?_)); refine rnP ?_ ?_ <;> (intro hq; try (have hq' := hq; simp only [hqs] at hq')))
        | refine rkC ?_
        | refine rkSB ?_
        | refine rkF ?_
        | refine rkU ?_
        | ((fail_if_success (refine rkKn ?_)); refine rkP ?_ ?_ <;> (intro hq; try (have hq' := hq; simp only [hqs] at hq')))
        | refine stp ?_
        | refine ifT ?_
        | refine ifF ?_
        | (refine ifQ ?_ ?_ <;> (try (intro hn)))
        | (refine ifB ?_ ?_ <;> (intro hq; try (have hq' := hq; simp only [hqs] at hq'))))
    exact rt1 rfl rfl finS_p rfl
theorem concat2P_o (a b : List Dot) (ex ey : Bool) (ha : a.length ≤ 1000000) (hb : b.length ≤ 1000000) (c k : Nat) : OCAt Try.prog 26 [.p (.sl 1 [[.sl 2 (a.map pR) ex], [.sl 2 (b.map pR) ey]] true)] [] [(c, k)] (.o (.osl c (k + 2) 2 0 (a ++ b).length)) [(c, (k + 3, some (.buf 62 2 ((a ++ b).map pR))))] := by
  have e : ([(a, ex), (b, ey)] : List (List Dot × Bool)).flatMap (·.1) = a ++ b := by simp
  have := (concatP_c [(a, ex), (b, ey)] true ⟨by rw [e, List.length_append]; omega, by simp⟩).fresh1 c k
  rw [e] at this
  exact this
instance concat2P_i {a b : List Dot} {ex ey : Bool} {c k : Nat} : OC Try.prog 26 [.p (.sl 1 [[.sl 2 (a.map pR) ex], [.sl 2 (b.map pR) ey]] true)] [] [(c, k)] (a.length ≤ 1000000 ∧ b.length ≤ 1000000) (.o (.osl c (k + 2) 2 0 (a ++ b).length)) [(c, (k + 3, some (.buf 62 2 ((a ++ b).map pR))))] := ⟨fun h => concat2P_o a b ex ey h.1 h.2 c k⟩
theorem listOut_o (q n v r : Nat) (part : Int) (hp : ¬ (0 ≤ part ∧ part < 8)) : OCall Try.prog 16 [.o (.ptr 1000 q 0), .p (.i part)] (memL [(1000, (q + 1, some (ringM n v r)))]) (.p (.sl 1 ((lstF n v r part).map iR) false)) (memL [(1000, (q + 1, some (ringM n v r)))]) := by
  refine ocall_of1 Try.func16 rfl (fun w0 F S0 M0 => ?_)
  haveI : PC Try.prog 23 [.p (.i part)] True (.tup [.one (.p (.k .u64 0)), .one (.p (.i 1))]) := ⟨fun _ => by have := base_w part; rwa [if_neg hp, if_neg hp] at this⟩
  unfold lstF
  rw [if_neg hp]
  as_aux_lemma =>
    repeat' (first
        | refine rnC ?_
        | refine rnSB ?_
        | refine rnG ?_
        | refine rnU ?_
        | ((fail_if_success (refine rnKn ?_)); refine rnP ?_ ?_ <;> (intro hq; try (have hq' := hq; simp only [hqs] at hq')))
        | refine rkC ?_
        | refine rkSB ?_
        | refine rkF ?_
        | refine rkU ?_
        | ((fail_if_success (refine rkKn ?_)); refine rkP ?_ ?_ <;> (intro hq; try (have hq' := hq; simp only [hqs] at hq')))
        | refine stp ?_
        | refine ifT ?_
        | refine ifF ?_
        | (refine ifQ ?_ ?_ <;> (try (intro hn)))
        | (refine ifB ?_ ?_ <;> (intro hq; try (have hq' := hq; simp only [hqs] at hq'))))
    exact RetO.mk (ot1 rfl rfl (.one .nil) rfl) ⟨.abs, trivial⟩
theorem listIn_o (q n v r : Nat) (part : Int) (hn : n ≤ 8) (hv : v ≤ 16) (hr : r ≤ 8) (hp : 0 ≤ part ∧ part < 8) : OCall Try.prog 16 [.o (.ptr 1000 q 0), .p (.i part)] (memL [(1000, (q + 1, some (ringM n v r)))]) (.p (.sl 1 ((lstF n v r part).map iR) false)) (memL [(1000, (q + 1, some (ringM n v r)))]) := by
  refine ocall_of1 Try.func16 rfl (fun w0 F S0 M0 => ?_)
  unfold lstF
  rw [if_pos hp]
  obtain ⟨B, hB⟩ : ∃ B, B = 2305843009213693952 * part := ⟨_, rfl⟩
  rw [← hB]
  haveI : PC Try.prog 23 [.p (.i part)] True (.tup [.one (.p (.k .u64 B)), .one (.p (.i 0))]) := ⟨fun _ => by have := base_w part; rwa [if_pos hp, if_pos hp, ← hB] at this⟩
  have hl : (pts n v).length ≤ 128 := by rw [pts_len]; exact Nat.mul_le_mul hn hv
  haveI : ∀ c g m : Nat, OC Try.prog 21 [.o (.ptr c g 0)] [(c, (m, some (ringM n v r)))] [] (m = g + 1) (.p (.sl 2 ((pts n v).map pR) false)) [(c, (m, some (ringM n v r)))] := fun c g m => ⟨fun h => points_i.call ⟨h, hn, hv⟩⟩
  unfold listF
  obtain ⟨i0, hi0, hidx, hrot⟩ := rot_is (B := B) (show upI ltD (pts n v) from sortD_up _)
  rw [← hrot]
  generalize pts n v = L at *
  obtain ⟨K, hK⟩ : ∃ K, K = idxP (geF B) L 0 L.length := ⟨_, rfl⟩
  rw [← hK] at hidx
  haveI : PC Try.prog 24 [.p (.sl 2 (L.map pR) false), .p (.fnv 25 [.bx [.k .u64 B] 0])] True (.p (.i K)) := ⟨fun _ => by rw [hK]; exact indexFuncP_w _ _ inferInstance (geF B) L false (by omega) fun e => geP_w e B⟩
  clear hK hrot
  have hmax : (if K < 0 then 0 else K) = (i0 : Int) := by
    rcases hidx with ⟨h1, h2⟩ | h1
    · rw [if_pos (by omega)]; omega
    · rw [if_neg (by omega)]; exact h1
  have hl1 : (L.drop (i0 : Int).toNat).length ≤ 1000000 := by rw [List.length_drop]; omega
  have hl2 : (L.take (i0 : Int).toNat).length ≤ 1000000 := by rw [List.length_take]; omega
  have hl3 : (L.drop (i0 : Int).toNat ++ L.take (i0 : Int).toNat).length ≤ 1000 := by rw [List.length_append, List.length_drop, List.length_take]; omega
  rw [show L.drop i0 ++ L.take i0 = L.drop (i0 : Int).toNat ++ L.take (i0 : Int).toNat by rw [Int.toNat_natCast]]
  repeat' (first
      | refine rnC ?_
      | refine rnSB ?_
      | refine rnG ?_
      | refine rnU ?_
      | ((fail_if_success (refine rnKn ?_)); refine rnP ?_ ?_ <;> (intro hq; try (have hq' := hq; simp only [hqs] at hq')))
      | refine rkC ?_
      | refine rkSB ?_
      | refine rkF ?_
      | refine rkU ?_
      | ((fail_if_success (refine rkKn ?_)); refine rkP ?_ ?_ <;> (intro hq; try (have hq' := hq; simp only [hqs] at hq')))
      | refine stp ?_
      | refine ifT ?_
      | refine ifF ?_
      | (refine ifQ ?_ ?_ <;> (try (intro hn)))
      | (refine ifB ?_ ?_ <;> (intro hq; try (have hq' := hq; simp only [hqs] at hq'))))
  refine aws_draws [(7, 32)] mixed (by kernel_rfl) ?_
  repeat' (first
      | refine rk_nil ?_
      | refine rkC ?_
      | refine rkSB ?_
      | refine rkF ?_
      | refine rkU ?_
      | ((fail_if_success (refine rkKn ?_)); refine rkP ?_ ?_ <;> (intro hq; try (have hq' := hq; simp only [hqs] at hq'))))
  repeat' (first
      | refine rnC ?_
      | refine rnSB ?_
      | refine rnG ?_
      | refine rnU ?_
      | ((fail_if_success (refine rnKn ?_)); refine rnP ?_ ?_ <;> (intro hq; try (have hq' := hq; simp only [hqs] at hq')))
      | refine rkC ?_
      | refine rkSB ?_
      | refine rkF ?_
      | refine rkU ?_
      | ((fail_if_success (refine rkKn ?_)); refine rkP ?_ ?_ <;> (intro hq; try (have hq' := hq; simp only [hqs] at hq')))
      | refine stp ?_
      | refine ifT ?_
      | refine ifF ?_
      | (refine ifQ ?_ ?_ <;> (try (intro hn)))
      | (refine ifB ?_ ?_ <;> (intro hq; try (have hq' := hq; simp only [hqs] at hq'))))
  generalize L.drop (i0 : Int).toNat ++ L.take (i0 : Int).toNat = M at *
  refine aws_or (o := 1000) rfl fun d => ?_
  refine aws_says (says_frz (t := 32) (o := 32) rfl rfl rfl (by simp)) ?_
  refine aws_says (says_nil (t := 9) (o := 901) (ty := 3) (es := 1) rfl rfl (by decide)) ?_
  refine aws_loopS [9, 11, 34, 35, 36, 37, 38, 39, 40, 41, 42, 43, 44, 45, 46, 47, 48, 49, 50, 51, 52, 53, 54, 55, 56, 57, 58] [11, 901] (fun (x : Nat × Nat × List Int × Nat × Option MO) => [(34, .p (.i x.1)), (9, .o (.osl 901 x.2.1 1 0 x.2.2.1.length))]) (fun x => [(11, x.2.2.2), (901, (x.2.1 + 1, some (.buf 3 1 (x.2.2.1.map iR))))])
    (fun x => x.1 ≤ M.length ∧ x.2.2.1 = (dl ((M.take x.1).map (·.2))).take r) (fun x => M.length - x.1) (0, 0, [], 0, none) ⟨Nat.zero_le _, by dsimp only; rw [List.take_zero]; exact (List.take_nil (i := r)).symm⟩ (by exact knA) (by exact knA) ?_
  rintro ⟨i, g, m, c11, o11⟩ β γ ⟨hi, hm⟩
  simp only at hi hm
  have hml : m.length ≤ 8 := by rw [hm, List.length_take]; omega
  dsimp only
  by_cases hil : i < M.length
  · have d1 : decide ((i : Int) < (M.length : Int)) = true := decide_eq_true (by omega)
    have ei : (i : Int).toNat = i := Int.toNat_natCast i
    have hst := take_step (r := r) ((M.take i).map (·.2)) (M.getD i default).2
    rw [show (M.take i).map (·.2) ++ [(M.getD i default).2] = (M.take (i + 1)).map (·.2) by rw [take_get' hil, List.map_append]; rfl, ← hm] at hst
    by_cases hr1 : (m.length : Int) < (r : Int)
    · have d2 : decide ((m.length : Int) < (r : Int)) = true := decide_eq_true hr1
      by_cases hx : (M.getD (i : Int).toNat default).2 ∈ m
      · have d3 : (!decide ((M.getD (i : Int).toNat default).2 ∈ m)) = false := by rw [decide_eq_true hx]; rfl
        rw [ei] at hx
        rw [if_neg (fun q => q.2 hx)] at hst
        as_aux_lemma =>
          repeat' (first
              | refine rnC ?_
              | refine rnSB ?_
              | refine rnG ?_
              | refine rnU ?_
              | ((fail_if_success (refine rnKn ?_)); refine rnP ?_ ?_ <;> (intro hq; try (have hq' := hq; simp only [hqs] at hq')))
              | refine rkC ?_
              | refine rkSB ?_
              | refine rkF ?_
              | refine rkU ?_
              | ((fail_if_success (refine rkKn ?_)); refine rkP ?_ ?_ <;> (intro hq; try (have hq' := hq; simp only [hqs] at hq')))
              | refine stp ?_
              | refine ifT ?_
              | refine ifF ?_
              | (refine ifQ ?_ ?_ <;> (try (intro hn)))
              | (refine ifB ?_ ?_ <;> (intro hq; try (have hq' := hq; simp only [hqs] at hq'))))
          exact ⟨(i + 1, g, m, _, _), _, by dsimp only; omega, ⟨by dsimp only; omega, hst.symm⟩, .refl, by exact frA⟩
      · have d3 : (!decide ((M.getD (i : Int).toNat default).2 ∈ m)) = true := by rw [decide_eq_false hx]; rfl
        rw [ei] at hx
        rw [if_pos ⟨by omega, hx⟩] at hst
        as_aux_lemma =>
          repeat' (first
              | refine rnC ?_
              | refine rnSB ?_
              | refine rnG ?_
              | refine rnU ?_
              | ((fail_if_success (refine rnKn ?_)); refine rnP ?_ ?_ <;> (intro hq; try (have hq' := hq; simp only [hqs] at hq')))
              | refine rkC ?_
              | refine rkSB ?_
              | refine rkF ?_
              | refine rkU ?_
              | ((fail_if_success (refine rkKn ?_)); refine rkP ?_ ?_ <;> (intro hq; try (have hq' := hq; simp only [hqs] at hq')))
              | refine stp ?_
              | refine ifT ?_
              | refine ifF ?_
              | (refine ifQ ?_ ?_ <;> (try (intro hn)))
              | (refine ifB ?_ ?_ <;> (intro hq; try (have hq' := hq; simp only [hqs] at hq'))))
          refine ⟨(i + 1, g + 1, m ++ [(M.getD (i : Int).toNat default).2], _, _), _, by dsimp only; omega, ⟨by dsimp only; omega, ?_⟩, .refl, by exact frA⟩
          dsimp only
          rw [hst, ei]
    · have d2 : decide ((m.length : Int) < (r : Int)) = false := decide_eq_false hr1
      rw [if_neg (show ¬ (m.length < r ∧ (M.getD i default).2 ∉ m) from fun q => by omega)] at hst
      as_aux_lemma =>
        repeat' (first
            | refine rnC ?_
            | refine rnSB ?_
            | refine rnG ?_
            | refine rnU ?_
            | ((fail_if_success (refine rnKn ?_)); refine rnP ?_ ?_ <;> (intro hq; try (have hq' := hq; simp only [hqs] at hq')))
            | refine rkC ?_
            | refine rkSB ?_
            | refine rkF ?_
            | refine rkU ?_
            | ((fail_if_success (refine rkKn ?_)); refine rkP ?_ ?_ <;> (intro hq; try (have hq' := hq; simp only [hqs] at hq')))
            | refine stp ?_
            | refine ifT ?_
            | refine ifF ?_
            | (refine ifQ ?_ ?_ <;> (try (intro hn)))
            | (refine ifB ?_ ?_ <;> (intro hq; try (have hq' := hq; simp only [hqs] at hq'))))
        exact ⟨(i + 1, g, m, _, _), _, by dsimp only; omega, ⟨by dsimp only; omega, hst.symm⟩, .refl, by exact frA⟩
  · have d1 : decide ((i : Int) < (M.length : Int)) = false := decide_eq_false (by omega)
    rw [show M.take i = M from List.take_of_length_le (by omega)] at hm
    rw [← hm]
    repeat' (first
        | refine rnC ?_
        | refine rnSB ?_
        | refine rnG ?_
        | refine rnU ?_
        | ((fail_if_success (refine rnKn ?_)); refine rnP ?_ ?_ <;> (intro hq; try (have hq' := hq; simp only [hqs] at hq')))
        | refine rkC ?_
        | refine rkSB ?_
        | refine rkF ?_
        | refine rkU ?_
        | ((fail_if_success (refine rkKn ?_)); refine rkP ?_ ?_ <;> (intro hq; try (have hq' := hq; simp only [hqs] at hq')))
        | refine stpR ?_
        | refine ifT ?_
        | refine ifF ?_
        | (refine ifQ ?_ ?_ <;> (try (intro hn)))
        | (refine ifB ?_ ?_ <;> (intro hq; try (have hq' := hq; simp only [hqs] at hq'))))
    refine aws_says (says_or (o := 1000) (ty := 57) (fun d => ringP d n v r) d rfl) ?_
    as_aux_lemma =>
      repeat' (first
          | refine rnC ?_
          | refine rnSB ?_
          | refine rnG ?_
          | refine rnU ?_
          | ((fail_if_success (refine rnKn ?_)); refine rnP ?_ ?_ <;> (intro hq; try (have hq' := hq; simp only [hqs] at hq')))
          | refine rkC ?_
          | refine rkSB ?_
          | refine rkF ?_
          | refine rkU ?_
          | ((fail_if_success (refine rkKn ?_)); refine rkP ?_ ?_ <;> (intro hq; try (have hq' := hq; simp only [hqs] at hq')))
          | refine stp ?_
          | refine ifT ?_
          | refine ifF ?_
          | (refine ifQ ?_ ?_ <;> (try (intro hn)))
          | (refine ifB ?_ ?_ <;> (intro hq; try (have hq' := hq; simp only [hqs] at hq'))))
      exact RetO.mk (ot1 rfl rfl (.one (finC_map rfl rfl rfl rfl)) rfl) ⟨.abs, trivial⟩
theorem list_o (q n v r : Nat) (part : Int) (hn : n ≤ 8) (hv : v ≤ 16) (hr : r ≤ 8) : OCall Try.prog 16 [.o (.ptr 1000 q 0), .p (.i part)] (memL [(1000, (q + 1, some (ringM n v r)))]) (.p (.sl 1 ((lstF n v r part).map iR) false)) (memL [(1000, (q + 1, some (ringM n v r)))]) := by
  by_cases hp : 0 ≤ part ∧ part < 8
  · exact listIn_o q n v r part hn hv hr hp
  · exact listOut_o q n v r part hp
instance list_i {c g m n v r : Nat} {part : Int} : OC Try.prog 16 [.o (.ptr c g 0), .p (.i part)] [(c, (m, some (ringM n v r)))] [] (m = g + 1 ∧ n ≤ 8 ∧ v ≤ 16 ∧ r ≤ 8) (.p (.sl 1 ((lstF n v r part).map iR) false)) [(c, (m, some (ringM n v r)))] := ⟨fun h => by obtain ⟨rfl, h1, h2, h3⟩ := h; exact (list_o g n v r part h1 h2 h3).one c⟩
end Go.Proofs.Ytebjmleheiefdaa.Rg
namespace Go.Proofs.Ytebjmleheiefdaa.Rg
open Go Go.RowKit Go.Aw Go.Aw.Cart Go.Aw.Ord Go.Sort Go.Proofs.Ytebjmleheiefdaa.Ca
set_option linter.unusedVariables false
set_option linter.unusedSimpArgs false
set_option maxRecDepth 8000
set_option maxHeartbeats 4000000
open PB
theorem lstF_len (n v r : Nat) (part : Int) : (lstF n v r part).length ≤ r := by
  unfold lstF
  split
  · unfold listF; rw [List.length_take]; omega
  · exact Nat.zero_le _
theorem holds_o (q n v r : Nat) (node part : Int) (hn : n ≤ 8) (hv : v ≤ 16) (hr : r ≤ 8) : OCall Try.prog 17 [.o (.ptr 1000 q 0), .p (.i node), .p (.i part)] (memL [(1000, (q + 1, some (ringM n v r)))]) (.p (.b (decide (node ∈ lstF n v r part)))) (memL [(1000, (q + 1, some (ringM n v r)))]) := by
  refine ocall_of1 Try.func17 rfl (fun w0 F S0 M0 => ?_)
  have hl : (lstF n v r part).length ≤ 1000 := Nat.le_trans (lstF_len n v r part) (by omega)
  as_aux_lemma =>
    repeat' (first
        | refine rnC ?_
        | refine rnSB ?_
        | refine rnG ?_
        | refine rnU ?_
        | ((fail_if_success (refine rnKn ?_)); refine rnP ?_ ?_ <;> (intro hq; try (have hq' := hq; simp only [hqs] at hq')))
        | refine rkC ?_
        | refine rkSB ?_
        | refine rkF ?_
        | refine rkU ?_
        | ((fail_if_success (refine rkKn ?_)); refine rkP ?_ ?_ <;> (intro hq; try (have hq' := hq; simp only [hqs] at hq')))
        | refine stp ?_
        | refine ifT ?_
        | refine ifF ?_
        | (refine ifQ ?_ ?_ <;> (try (intro hn)))
        | (refine ifB ?_ ?_ <;> (intro hq; try (have hq' := hq; simp only [hqs] at hq'))))
    exact RetO.mk (ot1 rfl rfl finS_p rfl) ⟨.abs, trivial⟩
instance holds_i {c g m n v r : Nat} {node part : Int} : OC Try.prog 17 [.o (.ptr c g 0), .p (.i node), .p (.i part)] [(c, (m, some (ringM n v r)))] [] (m = g + 1 ∧ n ≤ 8 ∧ v ≤ 16 ∧ r ≤ 8) (.p (.b (decide (node ∈ lstF n v r part)))) [(c, (m, some (ringM n v r)))] := ⟨fun h => by obtain ⟨rfl, h1, h2, h3⟩ := h; exact (holds_o g n v r node part h1 h2 h3).one c⟩
/-- the parts that a node holds -/
def partsTo (n v r : Nat) (node : Int) : Nat → List Int
  | 0 => []
  | k + 1 => if node ∈ lstF n v r k then partsTo n v r node k ++ [(k : Int)] else partsTo n v r node k
theorem partsTo_len (n v r : Nat) (node : Int) : ∀ k, (partsTo n v r node k).length ≤ k
  | 0 => Nat.le_refl _
  | k + 1 => by
    have := partsTo_len n v r node k
    rw [partsTo]
    split
    · rw [List.length_append, List.length_singleton]; omega
    · omega
theorem parts_o (q n v r : Nat) (node : Int) (hn : n ≤ 8) (hv : v ≤ 16) (hr : r ≤ 8) : OCall Try.prog 18 [.o (.ptr 1000 q 0), .p (.i node)] (memL [(1000, (q + 1, some (ringM n v r)))]) (.p (.sl 1 ((partsTo n v r node 8).map iR) false)) (memL [(1000, (q + 1, some (ringM n v r)))]) := by
  refine ocall_of1 Try.func18 rfl (fun w0 F S0 M0 => ?_)
  repeat' (first
      | refine rnC ?_
      | refine rnSB ?_
      | refine rnG ?_
      | refine rnU ?_
      | ((fail_if_success (refine rnKn ?_)); refine rnP ?_ ?_ <;> (intro hq; try (have hq' := hq; simp only [hqs] at hq')))
      | refine rkC ?_
      | refine rkSB ?_
      | refine rkF ?_
      | refine rkU ?_
      | ((fail_if_success (refine rkKn ?_)); refine rkP ?_ ?_ <;> (intro hq; try (have hq' := hq; simp only [hqs] at hq')))
      | refine stp ?_
      | refine ifT ?_
      | refine ifF ?_
      | (refine ifQ ?_ ?_ <;> (try (intro hn)))
      | (refine ifB ?_ ?_ <;> (intro hq; try (have hq' := hq; simp only [hqs] at hq'))))
  refine aws_says (says_nil (t := 5) (o := 901) (ty := 3) (es := 1) rfl rfl (by decide)) ?_
  refine aws_loopS [5, 6, 7, 8, 9, 10, 11, 12, 13, 14, 15, 16, 17, 18] [1000, 901] (fun (x : Nat × Nat × List Int) => [(7, .p (.i x.1)), (5, .o (.osl 901 x.2.1 1 0 x.2.2.length))]) (fun x => [(1000, (q + 1, some (ringM n v r))), (901, (x.2.1 + 1, some (.buf 3 1 (x.2.2.map iR))))])
    (fun x => x.1 ≤ 8 ∧ x.2.2 = partsTo n v r node x.1) (fun x => 8 - x.1) (0, 0, []) ⟨Nat.zero_le _, rfl⟩ (by exact knA) (by exact knA) ?_
  rintro ⟨i, g, m⟩ β γ ⟨hi, hm⟩
  simp only at hi hm
  have hml : m.length ≤ 8 := by rw [hm]; exact Nat.le_trans (partsTo_len _ _ _ _ _) hi
  dsimp only
  by_cases hil : i < 8
  · have d1 : decide ((i : Int) < 8) = true := decide_eq_true (by omega)
    by_cases hx : node ∈ lstF n v r i
    · have d2 : decide (node ∈ lstF n v r i) = true := decide_eq_true hx
      as_aux_lemma =>
        repeat' (first
            | refine rnC ?_
            | refine rnSB ?_
            | refine rnG ?_
            | refine rnU ?_
            | ((fail_if_success (refine rnKn ?_)); refine rnP ?_ ?_ <;> (intro hq; try (have hq' := hq; simp only [hqs] at hq')))
            | refine rkC ?_
            | refine rkSB ?_
            | refine rkF ?_
            | refine rkU ?_
            | ((fail_if_success (refine rkKn ?_)); refine rkP ?_ ?_ <;> (intro hq; try (have hq' := hq; simp only [hqs] at hq')))
            | refine stp ?_
            | refine ifT ?_
            | refine ifF ?_
            | (refine ifQ ?_ ?_ <;> (try (intro hn)))
            | (refine ifB ?_ ?_ <;> (intro hq; try (have hq' := hq; simp only [hqs] at hq'))))
        refine ⟨(i + 1, g + 1, m ++ [(i : Int)]), _, by dsimp only; omega, ⟨by dsimp only; omega, ?_⟩, .refl, by exact frA⟩
        dsimp only
        rw [partsTo, if_pos hx, hm]
    · have d2 : decide (node ∈ lstF n v r i) = false := decide_eq_false hx
      as_aux_lemma =>
        repeat' (first
            | refine rnC ?_
            | refine rnSB ?_
            | refine rnG ?_
            | refine rnU ?_
            | ((fail_if_success (refine rnKn ?_)); refine rnP ?_ ?_ <;> (intro hq; try (have hq' := hq; simp only [hqs] at hq')))
            | refine rkC ?_
            | refine rkSB ?_
            | refine rkF ?_
            | refine rkU ?_
            | ((fail_if_success (refine rkKn ?_)); refine rkP ?_ ?_ <;> (intro hq; try (have hq' := hq; simp only [hqs] at hq')))
            | refine stp ?_
            | refine ifT ?_
            | refine ifF ?_
            | (refine ifQ ?_ ?_ <;> (try (intro hn)))
            | (refine ifB ?_ ?_ <;> (intro hq; try (have hq' := hq; simp only [hqs] at hq'))))
        refine ⟨(i + 1, g, m), _, by dsimp only; omega, ⟨by dsimp only; omega, ?_⟩, .refl, by exact frA⟩
        dsimp only
        rw [partsTo, if_neg hx, hm]
  · have d1 : decide ((i : Int) < 8) = false := decide_eq_false (by omega)
    obtain rfl : i = 8 := by omega
    rw [← hm]
    as_aux_lemma =>
      repeat' (first
          | refine rnC ?_
          | refine rnSB ?_
          | refine rnG ?_
          | refine rnU ?_
          | ((fail_if_success (refine rnKn ?_)); refine rnP ?_ ?_ <;> (intro hq; try (have hq' := hq; simp only [hqs] at hq')))
          | refine rkC ?_
          | refine rkSB ?_
          | refine rkF ?_
          | refine rkU ?_
          | ((fail_if_success (refine rkKn ?_)); refine rkP ?_ ?_ <;> (intro hq; try (have hq' := hq; simp only [hqs] at hq')))
          | refine stp ?_
          | refine ifT ?_
          | refine ifF ?_
          | (refine ifQ ?_ ?_ <;> (try (intro hn)))
          | (refine ifB ?_ ?_ <;> (intro hq; try (have hq' := hq; simp only [hqs] at hq'))))
      exact RetO.mk (ot1 rfl rfl (.one (finC_map rfl rfl rfl rfl)) rfl) ⟨.abs, trivial⟩
instance parts_i {c g m n v r : Nat} {node : Int} : OC Try.prog 18 [.o (.ptr c g 0), .p (.i node)] [(c, (m, some (ringM n v r)))] [] (m = g + 1 ∧ n ≤ 8 ∧ v ≤ 16 ∧ r ≤ 8) (.p (.sl 1 ((partsTo n v r node 8).map iR) false)) [(c, (m, some (ringM n v r)))] := ⟨fun h => by obtain ⟨rfl, h1, h2, h3⟩ := h; exact (parts_o g n v r node h1 h2 h3).one c⟩
/-! a ring that is nil -/
theorem points1Nil_w : PCall Try.prog 11 [.p (.v (.pointer none))] (.p (.sl 1 (([] : List Int).map uR) false)) := by
  refine pcall_of Try.func11 rfl (fun w0 F S0 M0 => ?_)
  repeat' (first
      | refine rnC ?_
      | refine rnSB ?_
      | refine rnG ?_
      | refine rnU ?_
      | ((fail_if_success (refine rnKn ?_)); refine rnP ?_ ?_ <;> (intro hq; try (have hq' := hq; simp only [hqs] at hq')))
      | refine rkC ?_
      | refine rkSB ?_
      | refine rkF ?_
      | refine rkU ?_
      | ((fail_if_success (refine rkKn ?_)); refine rkP ?_ ?_ <;> (intro hq; try (have hq' := hq; simp only [hqs] at hq')))
      | refine stp ?_
      | refine ifT ?_
      | refine ifF ?_
      | (refine ifQ ?_ ?_ <;> (try (intro hn)))
      | (refine ifB ?_ ?_ <;> (intro hq; try (have hq' := hq; simp only [hqs] at hq'))))
  refine aws_loopS [3, 5, 9, 10, 11, 12, 13, 14, 15, 16, 17, 18] [] (fun (_ : Unit) => [(9, .p (.i 0)), (3, .p (.v (.slice none 0 0)))]) (fun _ => []) (fun _ => True) (fun _ => 0) () trivial (by exact knA) (by exact knA) ?_
  rintro _ β γ _
  have d1 : decide ((0 : Int) < (([] : List Dot).length : Int)) = false := by decide
  as_aux_lemma =>
    repeat' (first
        | refine rnC ?_
        | refine rnSB ?_
        | refine rnG ?_
        | refine rnU ?_
        | ((fail_if_success (refine rnKn ?_)); refine rnP ?_ ?_ <;> (intro hq; try (have hq' := hq; simp only [hqs] at hq')))
        | refine rkC ?_
        | refine rkSB ?_
        | refine rkF ?_
        | refine rkU ?_
        | ((fail_if_success (refine rkKn ?_)); refine rkP ?_ ?_ <;> (intro hq; try (have hq' := hq; simp only [hqs] at hq')))
        | refine stp ?_
        | refine ifT ?_
        | refine ifF ?_
        | (refine ifQ ?_ ?_ <;> (try (intro hn)))
        | (refine ifB ?_ ?_ <;> (intro hq; try (have hq' := hq; simp only [hqs] at hq'))))
    exact rt1 rfl rfl (.one .nil) rfl
instance points1Nil_i : PC Try.prog 11 [.p (.v (.pointer none))] True (.p (.sl 1 (([] : List Int).map uR) false)) := ⟨fun _ => points1Nil_w⟩
theorem listNil_w (part : Int) (hp : 0 ≤ part ∧ part < 8) : PCall Try.prog 16 [.p (.v (.pointer none)), .p (.i part)] (.p (.sl 1 (([] : List Int).map iR) false)) := by
  refine pcall_of Try.func16 rfl (fun w0 F S0 M0 => ?_)
  obtain ⟨B, hB⟩ : ∃ B, B = 2305843009213693952 * part := ⟨_, rfl⟩
  haveI : PC Try.prog 23 [.p (.i part)] True (.tup [.one (.p (.k .u64 B)), .one (.p (.i 0))]) := ⟨fun _ => by have := base_w part; rwa [if_pos hp, if_pos hp, ← hB] at this⟩
  obtain ⟨L, hL⟩ : ∃ L : List Dot, L = [] := ⟨[], rfl⟩
  haveI : PC Try.prog 21 [.p (.v (.pointer none))] True (.p (.sl 2 (L.map pR) false)) := ⟨fun _ => by rw [hL]; exact pointsNil_w⟩
  haveI : PC Try.prog 24 [.p (.sl 2 (L.map pR) false), .p (.fnv 25 [.bx [.k .u64 B] 0])] True (.p (.i (-1))) := ⟨fun _ => by rw [hL]; exact indexFuncP_w _ _ inferInstance (geF B) [] false (by decide) fun e => geP_w e B⟩
  have hmax : (if (-1 : Int) < 0 then 0 else -1) = ((0 : Nat) : Int) := by decide
  have hl1 : (L.drop ((0 : Nat) : Int).toNat).length ≤ 1000000 := by rw [hL]; decide
  have hl2 : (L.take ((0 : Nat) : Int).toNat).length ≤ 1000000 := by rw [hL]; decide
  have hM : L.drop ((0 : Nat) : Int).toNat ++ L.take ((0 : Nat) : Int).toNat = [] := by rw [hL]; rfl
  repeat' (first
      | refine rnC ?_
      | refine rnSB ?_
      | refine rnG ?_
      | refine rnU ?_
      | ((fail_if_success (refine rnKn ?_)); refine rnP ?_ ?_ <;> (intro hq; try (have hq' := hq; simp only [hqs] at hq')))
      | refine rkC ?_
      | refine rkSB ?_
      | refine rkF ?_
      | refine rkU ?_
      | ((fail_if_success (refine rkKn ?_)); refine rkP ?_ ?_ <;> (intro hq; try (have hq' := hq; simp only [hqs] at hq')))
      | refine stp ?_
      | refine ifT ?_
      | refine ifF ?_
      | (refine ifQ ?_ ?_ <;> (try (intro hn)))
      | (refine ifB ?_ ?_ <;> (intro hq; try (have hq' := hq; simp only [hqs] at hq'))))
  refine aws_draws [(7, 32)] mixed (by kernel_rfl) ?_
  repeat' (first
      | refine rk_nil ?_
      | refine rkC ?_
      | refine rkSB ?_
      | refine rkF ?_
      | refine rkU ?_
      | ((fail_if_success (refine rkKn ?_)); refine rkP ?_ ?_ <;> (intro hq; try (have hq' := hq; simp only [hqs] at hq'))))
  repeat' (first
      | refine rnC ?_
      | refine rnSB ?_
      | refine rnG ?_
      | refine rnU ?_
      | ((fail_if_success (refine rnKn ?_)); refine rnP ?_ ?_ <;> (intro hq; try (have hq' := hq; simp only [hqs] at hq')))
      | refine rkC ?_
      | refine rkSB ?_
      | refine rkF ?_
      | refine rkU ?_
      | ((fail_if_success (refine rkKn ?_)); refine rkP ?_ ?_ <;> (intro hq; try (have hq' := hq; simp only [hqs] at hq')))
      | refine stp ?_
      | refine ifT ?_
      | refine ifF ?_
      | (refine ifQ ?_ ?_ <;> (try (intro hn)))
      | (refine ifB ?_ ?_ <;> (intro hq; try (have hq' := hq; simp only [hqs] at hq'))))
  refine aws_loopS [9, 11, 34, 35, 36, 37, 38, 39, 40, 41, 42, 43, 44, 45, 46, 47, 48, 49, 50, 51, 52, 53, 54, 55, 56, 57, 58] [] (fun (_ : Unit) => [(34, .p (.i 0)), (9, .p (.v (.slice none 0 0)))]) (fun _ => []) (fun _ => True) (fun _ => 0) () trivial (by exact knA) (by exact knA) ?_
  rintro _ β γ _
  have d1 : decide ((0 : Int) < ((L.drop ((0 : Nat) : Int).toNat ++ L.take ((0 : Nat) : Int).toNat).length : Int)) = false := by rw [hM]; decide
  as_aux_lemma =>
    repeat' (first
        | refine rnC ?_
        | refine rnSB ?_
        | refine rnG ?_
        | refine rnU ?_
        | ((fail_if_success (refine rnKn ?_)); refine rnP ?_ ?_ <;> (intro hq; try (have hq' := hq; simp only [hqs] at hq')))
        | refine rkC ?_
        | refine rkSB ?_
        | refine rkF ?_
        | refine rkU ?_
        | ((fail_if_success (refine rkKn ?_)); refine rkP ?_ ?_ <;> (intro hq; try (have hq' := hq; simp only [hqs] at hq')))
        | refine stp ?_
        | refine ifT ?_
        | refine ifF ?_
        | (refine ifQ ?_ ?_ <;> (try (intro hn)))
        | (refine ifB ?_ ?_ <;> (intro hq; try (have hq' := hq; simp only [hqs] at hq'))))
    exact rt1 rfl rfl (.one .nil) rfl
instance listNil_i {part : Int} : PC Try.prog 16 [.p (.v (.pointer none)), .p (.i part)] (0 ≤ part ∧ part < 8) (.p (.sl 1 (([] : List Int).map iR) false)) := ⟨listNil_w part⟩
theorem holdsNil_w (node part : Int) (hp : 0 ≤ part ∧ part < 8) : PCall Try.prog 17 [.p (.v (.pointer none)), .p (.i node), .p (.i part)] (.p (.b (decide (node ∈ ([] : List Int))))) := by
  refine pcall_of Try.func17 rfl (fun w0 F S0 M0 => ?_)
  have hl : ([] : List Int).length ≤ 1000 := by decide
  as_aux_lemma =>
    repeat' (first
        | refine rnC ?_
        | refine rnSB ?_
        | refine rnG ?_
        | refine rnU ?_
        | ((fail_if_success (refine rnKn ?_)); refine rnP ?_ ?_ <;> (intro hq; try (have hq' := hq; simp only [hqs] at hq')))
        | refine rkC ?_
        | refine rkSB ?_
        | refine rkF ?_
        | refine rkU ?_
        | ((fail_if_success (refine rkKn ?_)); refine rkP ?_ ?_ <;> (intro hq; try (have hq' := hq; simp only [hqs] at hq')))
        | refine stp ?_
        | refine ifT ?_
        | refine ifF ?_
        | (refine ifQ ?_ ?_ <;> (try (intro hn)))
        | (refine ifB ?_ ?_ <;> (intro hq; try (have hq' := hq; simp only [hqs] at hq'))))
    exact rt1 rfl rfl finS_p rfl
instance holdsNil_i {node part : Int} : PC Try.prog 17 [.p (.v (.pointer none)), .p (.i node), .p (.i part)] (0 ≤ part ∧ part < 8) (.p (.b (decide (node ∈ ([] : List Int))))) := ⟨holdsNil_w node part⟩
theorem partsNil_w (node : Int) : PCall Try.prog 18 [.p (.v (.pointer none)), .p (.i node)] (.p (.sl 1 (([] : List Int).map iR) false)) := by
  refine pcall_of Try.func18 rfl (fun w0 F S0 M0 => ?_)
  repeat' (first
      | refine rnC ?_
      | refine rnSB ?_
      | refine rnG ?_
      | refine rnU ?_
      | ((fail_if_success (refine rnKn ?_)); refine rnP ?_ ?_ <;> (intro hq; try (have hq' := hq; simp only [hqs] at hq')))
      | refine rkC ?_
      | refine rkSB ?_
      | refine rkF ?_
      | refine rkU ?_
      | ((fail_if_success (refine rkKn ?_)); refine rkP ?_ ?_ <;> (intro hq; try (have hq' := hq; simp only [hqs] at hq')))
      | refine stp ?_
      | refine ifT ?_
      | refine ifF ?_
      | (refine ifQ ?_ ?_ <;> (try (intro hn)))
      | (refine ifB ?_ ?_ <;> (intro hq; try (have hq' := hq; simp only [hqs] at hq'))))
  refine aws_loopS [5, 6, 7, 8, 9, 10, 11, 12, 13, 14, 15, 16, 17, 18] [] (fun (i : Nat) => [(7, .p (.i i)), (5, .p (.v (.slice none 0 0)))]) (fun _ => []) (fun i => i ≤ 8) (fun i => 8 - i) 0 (Nat.zero_le _) (by exact knA) (by exact knA) ?_
  rintro i β γ hi
  by_cases hil : i < 8
  · have d1 : decide ((i : Int) < 8) = true := decide_eq_true (by omega)
    have d2 : decide (node ∈ ([] : List Int)) = false := decide_eq_false (by simp)
    as_aux_lemma =>
      repeat' (first
          | refine rnC ?_
          | refine rnSB ?_
          | refine rnG ?_
          | refine rnU ?_
          | ((fail_if_success (refine rnKn ?_)); refine rnP ?_ ?_ <;> (intro hq; try (have hq' := hq; simp only [hqs] at hq')))
          | refine rkC ?_
          | refine rkSB ?_
          | refine rkF ?_
          | refine rkU ?_
          | ((fail_if_success (refine rkKn ?_)); refine rkP ?_ ?_ <;> (intro hq; try (have hq' := hq; simp only [hqs] at hq')))
          | refine stp ?_
          | refine ifT ?_
          | refine ifF ?_
          | (refine ifQ ?_ ?_ <;> (try (intro hn)))
          | (refine ifB ?_ ?_ <;> (intro hq; try (have hq' := hq; simp only [hqs] at hq'))))
      exact ⟨i + 1, _, by omega, (by show i + 1 ≤ 8; omega), .refl, by exact frA⟩
  · have d1 : decide ((i : Int) < 8) = false := decide_eq_false (by omega)
    as_aux_lemma =>
      repeat' (first
          | refine rnC ?_
          | refine rnSB ?_
          | refine rnG ?_
          | refine rnU ?_
          | ((fail_if_success (refine rnKn ?_)); refine rnP ?_ ?_ <;> (intro hq; try (have hq' := hq; simp only [hqs] at hq')))
          | refine rkC ?_
          | refine rkSB ?_
          | refine rkF ?_
          | refine rkU ?_
          | ((fail_if_success (refine rkKn ?_)); refine rkP ?_ ?_ <;> (intro hq; try (have hq' := hq; simp only [hqs] at hq')))
          | refine stp ?_
          | refine ifT ?_
          | refine ifF ?_
          | (refine ifQ ?_ ?_ <;> (try (intro hn)))
          | (refine ifB ?_ ?_ <;> (intro hq; try (have hq' := hq; simp only [hqs] at hq'))))
      exact rt1 rfl rfl (.one .nil) rfl
instance partsNil_i {node : Int} : PC Try.prog 18 [.p (.v (.pointer none)), .p (.i node)] True (.p (.sl 1 (([] : List Int).map iR) false)) := ⟨fun _ => partsNil_w node⟩
end Go.Proofs.Ytebjmleheiefdaa.Rg
