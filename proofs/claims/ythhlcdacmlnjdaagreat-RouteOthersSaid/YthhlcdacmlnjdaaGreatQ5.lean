/- rings: owners, a part's list, who holds what; rings: who holds what; a ring that is nil; rings: the reference's ring -/
import Derived.Test.YthhlcdacmlnjdaaGreatQ3
namespace Go.Proofs.YthhlcdacmlnjdaaGreat.Rg
open Go Go.RowKit Go.Aw Go.Aw.Cart Go.Aw.Ord Go.Sort Go.Proofs.YthhlcdacmlnjdaaGreat.Ca
set_option linter.unusedVariables false
set_option linter.unusedSimpArgs false
set_option maxRecDepth 8000
set_option maxHeartbeats 4000000
theorem lop_max_q {C : Ctx} {o : Oper} {σ : St} {x y : Operand} {T1 T2 : TypeId} {k : IntKind} {m n r : Int} (ho : o.op = .call ⟨.builtin .max, #[x, y], #[T1, T2]⟩) (hx : σ.look x = .p (.v (.int k m))) (hy : σ.look y = .p (.v (.int k n))) (h : (if m < n then n else m) = r) (hd : dOk C o.dst = true) : LOp C o σ ⟨.p (.v (.int k r)), []⟩ (fun _ => false) := h ▸ lop_max ho hx hy hd
namespace PB
theorem lopC {C : Ctx} {o : Oper} {σ : St} {e : Eff} {ro : Nat → Bool} (h : LOp C o σ e ro := by
    first
      | (apply lop_max_q; (focus rfl); (focus rfl); (focus rfl); (focus assumption); (focus rfl))
      | exact PA.lopC
      | fail) : LOp C o σ e ro := h
section steps
variable {C : Ctx} {ops : Array Oper} {o : Oper} {rest : List Oper} {K : St → Prop} {σ : St} {e : Eff} {ro : Nat → Bool} {W : List (Nat × Nat)} {i : Nat}
theorem rnC {d : Nat} (hk : RunN C ops rest K (e.app (some d) σ)) (hg : Guard ops σ o true := by first | exact gd_n rfl rfl | exact gd_t rfl rfl rfl rfl | exact gd_t rfl rfl rfl (by assumption)) (hd : o.dst = some d := by rfl) (h : LOp C o σ e ro := by exact lopC) : RunN C ops (o :: rest) K σ := rn_any hg hd h hk
theorem rkC {d : Nat} (hk : RunK C ops W (i + 1) rest K (e.app (some d) σ)) (hg : Guard ops σ o true := by first | exact gd_n rfl rfl | exact gd_t rfl rfl rfl rfl | exact gd_t rfl rfl rfl (by assumption)) (hd' : o.dst = some d := by rfl) (hd : dOk C o.dst = true := by rfl) (h : LOp C o σ e ro := by exact lopC)
    (hro : ∀ x, ro x = true → okObj ops W i x = true := by first | exact fun _ => ro_none | exact ro_one rfl | exact ro_k1 rfl | exact ro_one (by kernel_rfl) | exact ro_k1 (by kernel_rfl) | exact ro_kIn (by decide)) (hob : ∀ p ∈ e.obj, (i, p.1) ∈ W := by first | exact ob_none | exact ob_one (by decide) | decide) : RunK C ops W i (o :: rest) K σ := rk_wr hg hd' hd h hro hob hk
end steps
end PB
open PB
/-- a part's list; none of a part that there is not -/
def lstF (n v r : Nat) (part : Int) : List Int := if 0 ≤ part ∧ part < 8 then listF (pts n v) r (2305843009213693952 * part) else []
theorem geP_w (d : Dot) (B : Int) : PCall Tryz.prog 46 ([pV d] ++ [PVal.bx [.k .u64 B] 0].map .p) (.p (.b (geF B d))) := by
  refine pcall_of Tryz.func46 rfl (fun w0 F S0 M0 => ?_)
  as_aux_lemma =>
    repeat' (first
        | refine rnC ?_
        | refine rnSB ?_
        | refine rnG ?_
        | refine rnU ?_
        | ((fail_if_success (refine rnKn ?_)); refine rnP ?_ ?_ <;> (intro hq; try (have hq' := hq; simp only [hqs] at hq')))
        | refine rkC ?_
        | refine rkSB ?_
        | refine rkF ?_
        | refine rkU ?_
        | ((fail_if_success (refine rkKn ?_)); refine rkP ?_ ?_ <;> (intro hq; try (have hq' := hq; simp only [hqs] at hq')))
        | refine stp ?_
        | refine ifT ?_
        | refine ifF ?_
        | (refine ifQ ?_ ?_ <;> (try (intro hn)))
        | (refine ifB ?_ ?_ <;> (intro hq; try (have hq' := hq; simp only [hqs] at hq'))))
    exact rt1 rfl rfl finS_p rfl
theorem concat2P_o (a b : List Dot) (ex ey : Bool) (ha : a.length ≤ 1000000) (hb : b.length ≤ 1000000) (c k : Nat) : OCAt Tryz.prog 47 [.p (.sl 1 [[.sl 2 (a.map pR) ex], [.sl 2 (b.map pR) ey]] true)] [] [(c, k)] (.o (.osl c (k + 2) 2 0 (a ++ b).length)) [(c, (k + 3, some (.buf 85 2 ((a ++ b).map pR))))] := by
  have e : ([(a, ex), (b, ey)] : List (List Dot × Bool)).flatMap (·.1) = a ++ b := by simp
  have := (concatP_c [(a, ex), (b, ey)] true ⟨by rw [e, List.length_append]; omega, by simp⟩).fresh1 c k
  rw [e] at this
  exact this
instance concat2P_i {a b : List Dot} {ex ey : Bool} {c k : Nat} : OC Tryz.prog 47 [.p (.sl 1 [[.sl 2 (a.map pR) ex], [.sl 2 (b.map pR) ey]] true)] [] [(c, k)] (a.length ≤ 1000000 ∧ b.length ≤ 1000000) (.o (.osl c (k + 2) 2 0 (a ++ b).length)) [(c, (k + 3, some (.buf 85 2 ((a ++ b).map pR))))] := ⟨fun h => concat2P_o a b ex ey h.1 h.2 c k⟩
theorem listOut_o (q n v r : Nat) (part : Int) (hp : ¬ (0 ≤ part ∧ part < 8)) : OCall Tryz.prog 27 [.o (.ptr 1000 q 0), .p (.i part)] (memL [(1000, (q + 1, some (ringM n v r)))]) (.p (.sl 1 ((lstF n v r part).map iR) false)) (memL [(1000, (q + 1, some (ringM n v r)))]) := by
  refine ocall_of1 Tryz.func27 rfl (fun w0 F S0 M0 => ?_)
  haveI : PC Tryz.prog 43 [.p (.i part)] True (.tup [.one (.p (.k .u64 0)), .one (.p (.i 1))]) := ⟨fun _ => by have := base_w part; rwa [if_neg hp, if_neg hp] at this⟩
  unfold lstF
  rw [if_neg hp]
  as_aux_lemma =>
    repeat' (first
        | refine rnC ?_
        | refine rnSB ?_
        | refine rnG ?_
        | refine rnU ?_
        | ((fail_if_success (refine rnKn ?_)); refine rnP ?_ ?_ <;> (intro hq; try (have hq' := hq; simp only [hqs] at hq')))
        | refine rkC ?_
        | refine rkSB ?_
        | refine rkF ?_
        | refine rkU ?_
        | ((fail_if_success (refine rkKn ?_)); refine rkP ?_ ?_ <;> (intro hq; try (have hq' := hq; simp only [hqs] at hq')))
        | refine stp ?_
        | refine ifT ?_
        | refine ifF ?_
        | (refine ifQ ?_ ?_ <;> (try (intro hn)))
        | (refine ifB ?_ ?_ <;> (intro hq; try (have hq' := hq; simp only [hqs] at hq'))))
    exact RetO.mk (ot1 rfl rfl (.one .nil) rfl) ⟨.abs, trivial⟩
theorem listIn_o (q n v r : Nat) (part : Int) (hn : n ≤ 8) (hv : v ≤ 16) (hr : r ≤ 8) (hp : 0 ≤ part ∧ part < 8) : OCall Tryz.prog 27 [.o (.ptr 1000 q 0), .p (.i part)] (memL [(1000, (q + 1, some (ringM n v r)))]) (.p (.sl 1 ((lstF n v r part).map iR) false)) (memL [(1000, (q + 1, some (ringM n v r)))]) := by
  refine ocall_of1 Tryz.func27 rfl (fun w0 F S0 M0 => ?_)
  unfold lstF
  rw [if_pos hp]
  obtain ⟨B, hB⟩ : ∃ B, B = 2305843009213693952 * part := ⟨_, rfl⟩
  rw [← hB]
  haveI : PC Tryz.prog 43 [.p (.i part)] True (.tup [.one (.p (.k .u64 B)), .one (.p (.i 0))]) := ⟨fun _ => by have := base_w part; rwa [if_pos hp, if_pos hp, ← hB] at this⟩
  have hl : (pts n v).length ≤ 128 := by rw [pts_len]; exact Nat.mul_le_mul hn hv
  haveI : ∀ c g m : Nat, OC Tryz.prog 44 [.o (.ptr c g 0)] [(c, (m, some (ringM n v r)))] [] (m = g + 1) (.p (.sl 2 ((pts n v).map pR) false)) [(c, (m, some (ringM n v r)))] := fun c g m => ⟨fun h => points_i.call ⟨h, hn, hv⟩⟩
  unfold listF
  obtain ⟨i0, hi0, hidx, hrot⟩ := rot_is (B := B) (show upI ltD (pts n v) from sortD_up _)
  rw [← hrot]
  generalize pts n v = L at *
  obtain ⟨K, hK⟩ : ∃ K, K = idxP (geF B) L 0 L.length := ⟨_, rfl⟩
  rw [← hK] at hidx
  haveI : PC Tryz.prog 45 [.p (.sl 2 (L.map pR) false), .p (.fnv 46 [.bx [.k .u64 B] 0])] True (.p (.i K)) := ⟨fun _ => by rw [hK]; exact indexFuncP_w _ _ inferInstance (geF B) L false (by omega) fun e => geP_w e B⟩
  clear hK hrot
  have hmax : (if K < 0 then 0 else K) = (i0 : Int) := by
    rcases hidx with ⟨h1, h2⟩ | h1
    · rw [if_pos (by omega)]; omega
    · rw [if_neg (by omega)]; exact h1
  have hl1 : (L.drop (i0 : Int).toNat).length ≤ 1000000 := by rw [List.length_drop]; omega
  have hl2 : (L.take (i0 : Int).toNat).length ≤ 1000000 := by rw [List.length_take]; omega
  have hl3 : (L.drop (i0 : Int).toNat ++ L.take (i0 : Int).toNat).length ≤ 1000 := by rw [List.length_append, List.length_drop, List.length_take]; omega
  rw [show L.drop i0 ++ L.take i0 = L.drop (i0 : Int).toNat ++ L.take (i0 : Int).toNat by rw [Int.toNat_natCast]]
  repeat' (first
      | refine rnC ?_
      | refine rnSB ?_
      | refine rnG ?_
      | refine rnU ?_
      | ((fail_if_success (refine rnKn ?_)); refine rnP ?_ ?_ <;> (intro hq; try (have hq' := hq; simp only [hqs] at hq')))
      | refine rkC ?_
      | refine rkSB ?_
      | refine rkF ?_
      | refine rkU ?_
      | ((fail_if_success (refine rkKn ?_)); refine rkP ?_ ?_ <;> (intro hq; try (have hq' := hq; simp only [hqs] at hq')))
      | refine stp ?_
      | refine ifT ?_
      | refine ifF ?_
      | (refine ifQ ?_ ?_ <;> (try (intro hn)))
      | (refine ifB ?_ ?_ <;> (intro hq; try (have hq' := hq; simp only [hqs] at hq'))))
  refine aws_draws [(7, 32)] mixed (by kernel_rfl) ?_
  repeat' (first
      | refine rk_nil ?_
      | refine rkC ?_
      | refine rkSB ?_
      | refine rkF ?_
      | refine rkU ?_
      | ((fail_if_success (refine rkKn ?_)); refine rkP ?_ ?_ <;> (intro hq; try (have hq' := hq; simp only [hqs] at hq'))))
  repeat' (first
      | refine rnC ?_
      | refine rnSB ?_
      | refine rnG ?_
      | refine rnU ?_
      | ((fail_if_success (refine rnKn ?_)); refine rnP ?_ ?_ <;> (intro hq; try (have hq' := hq; simp only [hqs] at hq')))
      | refine rkC ?_
      | refine rkSB ?_
      | refine rkF ?_
      | refine rkU ?_
      | ((fail_if_success (refine rkKn ?_)); refine rkP ?_ ?_ <;> (intro hq; try (have hq' := hq; simp only [hqs] at hq')))
      | refine stp ?_
      | refine ifT ?_
      | refine ifF ?_
      | (refine ifQ ?_ ?_ <;> (try (intro hn)))
      | (refine ifB ?_ ?_ <;> (intro hq; try (have hq' := hq; simp only [hqs] at hq'))))
  generalize L.drop (i0 : Int).toNat ++ L.take (i0 : Int).toNat = M at *
  refine aws_or (o := 1000) rfl fun d => ?_
  refine aws_says (says_frz (t := 32) (o := 32) rfl rfl rfl (by simp)) ?_
  refine aws_says (says_nil (t := 9) (o := 901) (ty := 3) (es := 1) rfl rfl (by decide)) ?_
  refine aws_loopS [9, 11, 34, 35, 36, 37, 38, 39, 40, 41, 42, 43, 44, 45, 46, 47, 48, 49, 50, 51, 52, 53, 54, 55, 56, 57, 58] [11, 901] (fun (x : Nat × Nat × List Int × Nat × Option MO) => [(34, .p (.i x.1)), (9, .o (.osl 901 x.2.1 1 0 x.2.2.1.length))]) (fun x => [(11, x.2.2.2), (901, (x.2.1 + 1, some (.buf 3 1 (x.2.2.1.map iR))))])
    (fun x => x.1 ≤ M.length ∧ x.2.2.1 = (dl ((M.take x.1).map (·.2))).take r) (fun x => M.length - x.1) (0, 0, [], 0, none) ⟨Nat.zero_le _, by dsimp only; rw [List.take_zero]; exact (List.take_nil (i := r)).symm⟩ (by exact knA) (by exact knA) ?_
  rintro ⟨i, g, m, c11, o11⟩ β γ ⟨hi, hm⟩
  simp only at hi hm
  have hml : m.length ≤ 8 := by rw [hm, List.length_take]; omega
  dsimp only
  by_cases hil : i < M.length
  · have d1 : decide ((i : Int) < (M.length : Int)) = true := decide_eq_true (by omega)
    have ei : (i : Int).toNat = i := Int.toNat_natCast i
    have hst := take_step (r := r) ((M.take i).map (·.2)) (M.getD i default).2
    rw [show (M.take i).map (·.2) ++ [(M.getD i default).2] = (M.take (i + 1)).map (·.2) by rw [take_get' hil, List.map_append]; rfl, ← hm] at hst
    by_cases hr1 : (m.length : Int) < (r : Int)
    · have d2 : decide ((m.length : Int) < (r : Int)) = true := decide_eq_true hr1
      by_cases hx : (M.getD (i : Int).toNat default).2 ∈ m
      · have d3 : (!decide ((M.getD (i : Int).toNat default).2 ∈ m)) = false := by rw [decide_eq_true hx]; rfl
        rw [ei] at hx
        rw [if_neg (fun q => q.2 hx)] at hst
        as_aux_lemma =>
          repeat' (first
              | refine rnC ?_
              | refine rnSB ?_
              | refine rnG ?_
              | refine rnU ?_
              | ((fail_if_success (refine rnKn ?_)); refine rnP ?_ ?_ <;> (intro hq; try (have hq' := hq; simp only [hqs] at hq')))
              | refine rkC ?_
              | refine rkSB ?_
              | refine rkF ?_
              | refine rkU ?_
              | ((fail_if_success (refine rkKn ?_)); refine rkP ?_ ?_ <;> (intro hq; try (have hq' := hq; simp only [hqs] at hq')))
              | refine stp ?_
              | refine ifT ?_
              | refine ifF ?_
              | (refine ifQ ?_ ?_ <;> (try (intro hn)))
              | (refine ifB ?_ ?_ <;> (intro hq; try (have hq' := hq; simp only [hqs] at hq'))))
          exact ⟨(i + 1, g, m, _, _), _, by dsimp only; omega, ⟨by dsimp only; omega, hst.symm⟩, .refl, by exact frA⟩
      · have d3 : (!decide ((M.getD (i : Int).toNat default).2 ∈ m)) = true := by rw [decide_eq_false hx]; rfl
        rw [ei] at hx
        rw [if_pos ⟨by omega, hx⟩] at hst
        as_aux_lemma =>
          repeat' (first
              | refine rnC ?_
              | refine rnSB ?_
              | refine rnG ?_
              | refine rnU ?_
              | ((fail_if_success (refine rnKn ?_)); refine rnP ?_ ?_ <;> (intro hq; try (have hq' := hq; simp only [hqs] at hq')))
              | refine rkC ?_
              | refine rkSB ?_
              | refine rkF ?_
              | refine rkU ?_
              | ((fail_if_success (refine rkKn ?_)); refine rkP ?_ ?_ <;> (intro hq; try (have hq' := hq; simp only [hqs] at hq')))
              | refine stp ?_
              | refine ifT ?_
              | refine ifF ?_
              | (refine ifQ ?_ ?_ <;> (try (intro hn)))
              | (refine ifB ?_ ?_ <;> (intro hq; try (have hq' := hq; simp only [hqs] at hq'))))
          refine ⟨(i + 1, g + 1, m ++ [(M.getD (i : Int).toNat default).2], _, _), _, by dsimp only; omega, ⟨by dsimp only; omega, ?_⟩, .refl, by exact frA⟩
          dsimp only
          rw [hst, ei]
    · have d2 : decide ((m.length : Int) < (r : Int)) = false := decide_eq_false hr1
      rw [if_neg (show ¬ (m.length < r ∧ (M.getD i default).2 ∉ m) from fun q => by omega)] at hst
      as_aux_lemma =>
        repeat' (first
            | refine rnC ?_
            | refine rnSB ?_
            | refine rnG ?_
            | refine rnU ?_
            | ((fail_if_success (refine rnKn ?_)); refine rnP ?_ ?_ <;> (intro hq; try (have hq' := hq; simp only [hqs] at hq')))
            | refine rkC ?_
            | refine rkSB ?_
            | refine rkF ?_
            | refine rkU ?_
            | ((fail_if_success (refine rkKn ?_)); refine rkP ?_ ?_ <;> (intro hq; try (have hq' := hq; simp only [hqs] at hq')))
            | refine stp ?_
            | refine ifT ?_
            | refine ifF ?_
            | (refine ifQ ?_ ?_ <;> (try (intro hn)))
            | (refine ifB ?_ ?_ <;> (intro hq; try (have hq' := hq; simp only [hqs] at hq'))))
        exact ⟨(i + 1, g, m, _, _), _, by dsimp only; omega, ⟨by dsimp only; omega, hst.symm⟩, .refl, by exact frA⟩
  · have d1 : decide ((i : Int) < (M.length : Int)) = false := decide_eq_false (by omega)
    rw [show M.take i = M from List.take_of_length_le (by omega)] at hm
    rw [← hm]
    repeat' (first
        | refine rnC ?_
        | refine rnSB ?_
        | refine rnG ?_
        | refine rnU ?_
        | ((fail_if_success (refine rnKn ?_)); refine rnP ?_ ?_ <;> (intro hq; try (have hq' := hq; simp only [hqs] at hq')))
        | refine rkC ?_
        | refine rkSB ?_
        | refine rkF ?_
        | refine rkU ?_
        | ((fail_if_success (refine rkKn ?_)); refine rkP ?_ ?_ <;> (intro hq; try (have hq' := hq; simp only [hqs] at hq')))
        | refine stpR ?_
        | refine ifT ?_
        | refine ifF ?_
        | (refine ifQ ?_ ?_ <;> (try (intro hn)))
        | (refine ifB ?_ ?_ <;> (intro hq; try (have hq' := hq; simp only [hqs] at hq'))))
    refine aws_says (says_or (o := 1000) (ty := 71) (fun d => ringP d n v r) d rfl) ?_
    as_aux_lemma =>
      repeat' (first
          | refine rnC ?_
          | refine rnSB ?_
          | refine rnG ?_
          | refine rnU ?_
          | ((fail_if_success (refine rnKn ?_)); refine rnP ?_ ?_ <;> (intro hq; try (have hq' := hq; simp only [hqs] at hq')))
          | refine rkC ?_
          | refine rkSB ?_
          | refine rkF ?_
          | refine rkU ?_
          | ((fail_if_success (refine rkKn ?_)); refine rkP ?_ ?_ <;> (intro hq; try (have hq' := hq; simp only [hqs] at hq')))
          | refine stp ?_
          | refine ifT ?_
          | refine ifF ?_
          | (refine ifQ ?_ ?_ <;> (try (intro hn)))
          | (refine ifB ?_ ?_ <;> (intro hq; try (have hq' := hq; simp only [hqs] at hq'))))
      exact RetO.mk (ot1 rfl rfl (.one (finC_map rfl rfl rfl rfl)) rfl) ⟨.abs, trivial⟩
theorem list_o (q n v r : Nat) (part : Int) (hn : n ≤ 8) (hv : v ≤ 16) (hr : r ≤ 8) : OCall Tryz.prog 27 [.o (.ptr 1000 q 0), .p (.i part)] (memL [(1000, (q + 1, some (ringM n v r)))]) (.p (.sl 1 ((lstF n v r part).map iR) false)) (memL [(1000, (q + 1, some (ringM n v r)))]) := by
  by_cases hp : 0 ≤ part ∧ part < 8
  · exact listIn_o q n v r part hn hv hr hp
  · exact listOut_o q n v r part hp
instance list_i {c g m n v r : Nat} {part : Int} : OC Tryz.prog 27 [.o (.ptr c g 0), .p (.i part)] [(c, (m, some (ringM n v r)))] [] (m = g + 1 ∧ n ≤ 8 ∧ v ≤ 16 ∧ r ≤ 8) (.p (.sl 1 ((lstF n v r part).map iR) false)) [(c, (m, some (ringM n v r)))] := ⟨fun h => by obtain ⟨rfl, h1, h2, h3⟩ := h; exact (list_o g n v r part h1 h2 h3).one c⟩
end Go.Proofs.YthhlcdacmlnjdaaGreat.Rg
namespace Go.Proofs.YthhlcdacmlnjdaaGreat.Rg
open Go Go.RowKit Go.Aw Go.Aw.Cart Go.Aw.Ord Go.Sort Go.Proofs.YthhlcdacmlnjdaaGreat.Ca
set_option linter.unusedVariables false
set_option linter.unusedSimpArgs false
set_option maxRecDepth 8000
set_option maxHeartbeats 4000000
open PB
theorem lstF_len (n v r : Nat) (part : Int) : (lstF n v r part).length ≤ r := by
  unfold lstF
  split
  · unfold listF; rw [List.length_take]; omega
  · exact Nat.zero_le _
theorem holds_o (q n v r : Nat) (node part : Int) (hn : n ≤ 8) (hv : v ≤ 16) (hr : r ≤ 8) : OCall Tryz.prog 25 [.o (.ptr 1000 q 0), .p (.i node), .p (.i part)] (memL [(1000, (q + 1, some (ringM n v r)))]) (.p (.b (decide (node ∈ lstF n v r part)))) (memL [(1000, (q + 1, some (ringM n v r)))]) := by
  refine ocall_of1 Tryz.func25 rfl (fun w0 F S0 M0 => ?_)
  have hl : (lstF n v r part).length ≤ 1000 := Nat.le_trans (lstF_len n v r part) (by omega)
  as_aux_lemma =>
    repeat' (first
        | refine rnC ?_
        | refine rnSB ?_
        | refine rnG ?_
        | refine rnU ?_
        | ((fail_if_success (refine rnKn ?_)); refine rnP ?_ ?_ <;> (intro hq; try (have hq' := hq; simp only [hqs] at hq')))
        | refine rkC ?_
        | refine rkSB ?_
        | refine rkF ?_
        | refine rkU ?_
        | ((fail_if_success (refine rkKn ?_)); refine rkP ?_ ?_ <;> (intro hq; try (have hq' := hq; simp only [hqs] at hq')))
        | refine stp ?_
        | refine ifT ?_
        | refine ifF ?_
        | (refine ifQ ?_ ?_ <;> (try (intro hn)))
        | (refine ifB ?_ ?_ <;> (intro hq; try (have hq' := hq; simp only [hqs] at hq'))))
    exact RetO.mk (ot1 rfl rfl finS_p rfl) ⟨.abs, trivial⟩
instance holds_i {c g m n v r : Nat} {node part : Int} : OC Tryz.prog 25 [.o (.ptr c g 0), .p (.i node), .p (.i part)] [(c, (m, some (ringM n v r)))] [] (m = g + 1 ∧ n ≤ 8 ∧ v ≤ 16 ∧ r ≤ 8) (.p (.b (decide (node ∈ lstF n v r part)))) [(c, (m, some (ringM n v r)))] := ⟨fun h => by obtain ⟨rfl, h1, h2, h3⟩ := h; exact (holds_o g n v r node part h1 h2 h3).one c⟩
/-- the parts that a node holds -/
def partsTo (n v r : Nat) (node : Int) : Nat → List Int
  | 0 => []
  | k + 1 => if node ∈ lstF n v r k then partsTo n v r node k ++ [(k : Int)] else partsTo n v r node k
theorem partsTo_len (n v r : Nat) (node : Int) : ∀ k, (partsTo n v r node k).length ≤ k
  | 0 => Nat.le_refl _
  | k + 1 => by
    have := partsTo_len n v r node k
    rw [partsTo]
    split
    · rw [List.length_append, List.length_singleton]; omega
    · omega
theorem parts_o (q n v r : Nat) (node : Int) (hn : n ≤ 8) (hv : v ≤ 16) (hr : r ≤ 8) : OCall Tryz.prog 29 [.o (.ptr 1000 q 0), .p (.i node)] (memL [(1000, (q + 1, some (ringM n v r)))]) (.p (.sl 1 ((partsTo n v r node 8).map iR) false)) (memL [(1000, (q + 1, some (ringM n v r)))]) := by
  refine ocall_of1 Tryz.func29 rfl (fun w0 F S0 M0 => ?_)
  repeat' (first
      | refine rnC ?_
      | refine rnSB ?_
      | refine rnG ?_
      | refine rnU ?_
      | ((fail_if_success (refine rnKn ?_)); refine rnP ?_ ?_ <;> (intro hq; try (have hq' := hq; simp only [hqs] at hq')))
      | refine rkC ?_
      | refine rkSB ?_
      | refine rkF ?_
      | refine rkU ?_
      | ((fail_if_success (refine rkKn ?_)); refine rkP ?_ ?_ <;> (intro hq; try (have hq' := hq; simp only [hqs] at hq')))
      | refine stp ?_
      | refine ifT ?_
      | refine ifF ?_
      | (refine ifQ ?_ ?_ <;> (try (intro hn)))
      | (refine ifB ?_ ?_ <;> (intro hq; try (have hq' := hq; simp only [hqs] at hq'))))
  refine aws_says (says_nil (t := 5) (o := 901) (ty := 3) (es := 1) rfl rfl (by decide)) ?_
  refine aws_loopS [5, 6, 7, 8, 9, 10, 11, 12, 13, 14, 15, 16, 17, 18] [1000, 901] (fun (x : Nat × Nat × List Int) => [(7, .p (.i x.1)), (5, .o (.osl 901 x.2.1 1 0 x.2.2.length))]) (fun x => [(1000, (q + 1, some (ringM n v r))), (901, (x.2.1 + 1, some (.buf 3 1 (x.2.2.map iR))))])
    (fun x => x.1 ≤ 8 ∧ x.2.2 = partsTo n v r node x.1) (fun x => 8 - x.1) (0, 0, []) ⟨Nat.zero_le _, rfl⟩ (by exact knA) (by exact knA) ?_
  rintro ⟨i, g, m⟩ β γ ⟨hi, hm⟩
  simp only at hi hm
  have hml : m.length ≤ 8 := by rw [hm]; exact Nat.le_trans (partsTo_len _ _ _ _ _) hi
  dsimp only
  by_cases hil : i < 8
  · have d1 : decide ((i : Int) < 8) = true := decide_eq_true (by omega)
    by_cases hx : node ∈ lstF n v r i
    · have d2 : decide (node ∈ lstF n v r i) = true := decide_eq_true hx
      as_aux_lemma =>
        repeat' (first
            | refine rnC ?_
            | refine rnSB ?_
            | refine rnG ?_
            | refine rnU ?_
            | ((fail_if_success (refine rnKn ?_)); refine rnP ?_ ?_ <;> (intro hq; try (have hq' := hq; simp only [hqs] at hq')))
            | refine rkC ?_
            | refine rkSB ?_
            | refine rkF ?_
            | refine rkU ?_
            | ((fail_if_success (refine rkKn ?_)); refine rkP ?_ ?_ <;> (intro hq; try (have hq' := hq; simp only [hqs] at hq')))
            | refine stp ?_
            | refine ifT ?_
            | refine ifF ?_
            | (refine ifQ ?_ ?_ <;> (try (intro hn)))
            | (refine ifB ?_ ?_ <;> (intro hq; try (have hq' := hq; simp only [hqs] at hq'))))
        refine ⟨(i + 1, g + 1, m ++ [(i : Int)]), _, by dsimp only; omega, ⟨by dsimp only; omega, ?_⟩, .refl, by exact frA⟩
        dsimp only
        rw [partsTo, if_pos hx, hm]
    · have d2 : decide (node ∈ lstF n v r i) = false := decide_eq_false hx
      as_aux_lemma =>
        repeat' (first
            | refine rnC ?_
            | refine rnSB ?_
            | refine rnG ?_
            | refine rnU ?_
            | ((fail_if_success (refine rnKn ?_)); refine rnP ?_ ?_ <;> (intro hq; try (have hq' := hq; simp only [hqs] at hq')))
            | refine rkC ?_
            | refine rkSB ?_
            | refine rkF ?_
            | refine rkU ?_
            | ((fail_if_success (refine rkKn ?_)); refine rkP ?_ ?_ <;> (intro hq; try (have hq' := hq; simp only [hqs] at hq')))
            | refine stp ?_
            | refine ifT ?_
            | refine ifF ?_
            | (refine ifQ ?_ ?_ <;> (try (intro hn)))
            | (refine ifB ?_ ?_ <;> (intro hq; try (have hq' := hq; simp only [hqs] at hq'))))
        refine ⟨(i + 1, g, m), _, by dsimp only; omega, ⟨by dsimp only; omega, ?_⟩, .refl, by exact frA⟩
        dsimp only
        rw [partsTo, if_neg hx, hm]
  · have d1 : decide ((i : Int) < 8) = false := decide_eq_false (by omega)
    obtain rfl : i = 8 := by omega
    rw [← hm]
    as_aux_lemma =>
      repeat' (first
          | refine rnC ?_
          | refine rnSB ?_
          | refine rnG ?_
          | refine rnU ?_
          | ((fail_if_success (refine rnKn ?_)); refine rnP ?_ ?_ <;> (intro hq; try (have hq' := hq; simp only [hqs] at hq')))
          | refine rkC ?_
          | refine rkSB ?_
          | refine rkF ?_
          | refine rkU ?_
          | ((fail_if_success (refine rkKn ?_)); refine rkP ?_ ?_ <;> (intro hq; try (have hq' := hq; simp only [hqs] at hq')))
          | refine stp ?_
          | refine ifT ?_
          | refine ifF ?_
          | (refine ifQ ?_ ?_ <;> (try (intro hn)))
          | (refine ifB ?_ ?_ <;> (intro hq; try (have hq' := hq; simp only [hqs] at hq'))))
      exact RetO.mk (ot1 rfl rfl (.one (finC_map rfl rfl rfl rfl)) rfl) ⟨.abs, trivial⟩
instance parts_i {c g m n v r : Nat} {node : Int} : OC Tryz.prog 29 [.o (.ptr c g 0), .p (.i node)] [(c, (m, some (ringM n v r)))] [] (m = g + 1 ∧ n ≤ 8 ∧ v ≤ 16 ∧ r ≤ 8) (.p (.sl 1 ((partsTo n v r node 8).map iR) false)) [(c, (m, some (ringM n v r)))] := ⟨fun h => by obtain ⟨rfl, h1, h2, h3⟩ := h; exact (parts_o g n v r node h1 h2 h3).one c⟩
/-! a ring that is nil -/
theorem listNil_w (part : Int) (hp : 0 ≤ part ∧ part < 8) : PCall Tryz.prog 27 [.p (.v (.pointer none)), .p (.i part)] (.p (.sl 1 (([] : List Int).map iR) false)) := by
  refine pcall_of Tryz.func27 rfl (fun w0 F S0 M0 => ?_)
  obtain ⟨B, hB⟩ : ∃ B, B = 2305843009213693952 * part := ⟨_, rfl⟩
  haveI : PC Tryz.prog 43 [.p (.i part)] True (.tup [.one (.p (.k .u64 B)), .one (.p (.i 0))]) := ⟨fun _ => by have := base_w part; rwa [if_pos hp, if_pos hp, ← hB] at this⟩
  obtain ⟨L, hL⟩ : ∃ L : List Dot, L = [] := ⟨[], rfl⟩
  haveI : PC Tryz.prog 44 [.p (.v (.pointer none))] True (.p (.sl 2 (L.map pR) false)) := ⟨fun _ => by rw [hL]; exact pointsNil_w⟩
  haveI : PC Tryz.prog 45 [.p (.sl 2 (L.map pR) false), .p (.fnv 46 [.bx [.k .u64 B] 0])] True (.p (.i (-1))) := ⟨fun _ => by rw [hL]; exact indexFuncP_w _ _ inferInstance (geF B) [] false (by decide) fun e => geP_w e B⟩
  have hmax : (if (-1 : Int) < 0 then 0 else -1) = ((0 : Nat) : Int) := by decide
  have hl1 : (L.drop ((0 : Nat) : Int).toNat).length ≤ 1000000 := by rw [hL]; decide
  have hl2 : (L.take ((0 : Nat) : Int).toNat).length ≤ 1000000 := by rw [hL]; decide
  have hM : L.drop ((0 : Nat) : Int).toNat ++ L.take ((0 : Nat) : Int).toNat = [] := by rw [hL]; rfl
  repeat' (first
      | refine rnC ?_
      | refine rnSB ?_
      | refine rnG ?_
      | refine rnU ?_
      | ((fail_if_success (refine rnKn ?_)); refine rnP ?_ ?_ <;> (intro hq; try (have hq' := hq; simp only [hqs] at hq')))
      | refine rkC ?_
      | refine rkSB ?_
      | refine rkF ?_
      | refine rkU ?_
      | ((fail_if_success (refine rkKn ?_)); refine rkP ?_ ?_ <;> (intro hq; try (have hq' := hq; simp only [hqs] at hq')))
      | refine stp ?_
      | refine ifT ?_
      | refine ifF ?_
      | (refine ifQ ?_ ?_ <;> (try (intro hn)))
      | (refine ifB ?_ ?_ <;> (intro hq; try (have hq' := hq; simp only [hqs] at hq'))))
  refine aws_draws [(7, 32)] mixed (by kernel_rfl) ?_
  repeat' (first
      | refine rk_nil ?_
      | refine rkC ?_
      | refine rkSB ?_
      | refine rkF ?_
      | refine rkU ?_
      | ((fail_if_success (refine rkKn ?_)); refine rkP ?_ ?_ <;> (intro hq; try (have hq' := hq; simp only [hqs] at hq'))))
  repeat' (first
      | refine rnC ?_
      | refine rnSB ?_
      | refine rnG ?_
      | refine rnU ?_
      | ((fail_if_success (refine rnKn ?_)); refine rnP ?_ ?_ <;> (intro hq; try (have hq' := hq; simp only [hqs] at hq')))
      | refine rkC ?_
      | refine rkSB ?_
      | refine rkF ?_
      | refine rkU ?_
      | ((fail_if_success (refine rkKn ?_)); refine rkP ?_ ?_ <;> (intro hq; try (have hq' := hq; simp only [hqs] at hq')))
      | refine stp ?_
      | refine ifT ?_
      | refine ifF ?_
      | (refine ifQ ?_ ?_ <;> (try (intro hn)))
      | (refine ifB ?_ ?_ <;> (intro hq; try (have hq' := hq; simp only [hqs] at hq'))))
  refine aws_loopS [9, 11, 34, 35, 36, 37, 38, 39, 40, 41, 42, 43, 44, 45, 46, 47, 48, 49, 50, 51, 52, 53, 54, 55, 56, 57, 58] [] (fun (_ : Unit) => [(34, .p (.i 0)), (9, .p (.v (.slice none 0 0)))]) (fun _ => []) (fun _ => True) (fun _ => 0) () trivial (by exact knA) (by exact knA) ?_
  rintro _ β γ _
  have d1 : decide ((0 : Int) < ((L.drop ((0 : Nat) : Int).toNat ++ L.take ((0 : Nat) : Int).toNat).length : Int)) = false := by rw [hM]; decide
  as_aux_lemma =>
    repeat' (first
        | refine rnC ?_
        | refine rnSB ?_
        | refine rnG ?_
        | refine rnU ?_
        | ((fail_if_success (refine rnKn ?_)); refine rnP ?_ ?_ <;> (intro hq; try (have hq' := hq; simp only [hqs] at hq')))
        | refine rkC ?_
        | refine rkSB ?_
        | refine rkF ?_
        | refine rkU ?_
        | ((fail_if_success (refine rkKn ?_)); refine rkP ?_ ?_ <;> (intro hq; try (have hq' := hq; simp only [hqs] at hq')))
        | refine stp ?_
        | refine ifT ?_
        | refine ifF ?_
        | (refine ifQ ?_ ?_ <;> (try (intro hn)))
        | (refine ifB ?_ ?_ <;> (intro hq; try (have hq' := hq; simp only [hqs] at hq'))))
    exact rt1 rfl rfl (.one .nil) rfl
instance listNil_i {part : Int} : PC Tryz.prog 27 [.p (.v (.pointer none)), .p (.i part)] (0 ≤ part ∧ part < 8) (.p (.sl 1 (([] : List Int).map iR) false)) := ⟨listNil_w part⟩
theorem holdsNil_w (node part : Int) (hp : 0 ≤ part ∧ part < 8) : PCall Tryz.prog 25 [.p (.v (.pointer none)), .p (.i node), .p (.i part)] (.p (.b (decide (node ∈ ([] : List Int))))) := by
  refine pcall_of Tryz.func25 rfl (fun w0 F S0 M0 => ?_)
  have hl : ([] : List Int).length ≤ 1000 := by decide
  as_aux_lemma =>
    repeat' (first
        | refine rnC ?_
        | refine rnSB ?_
        | refine rnG ?_
        | refine rnU ?_
        | ((fail_if_success (refine rnKn ?_)); refine rnP ?_ ?_ <;> (intro hq; try (have hq' := hq; simp only [hqs] at hq')))
        | refine rkC ?_
        | refine rkSB ?_
        | refine rkF ?_
        | refine rkU ?_
        | ((fail_if_success (refine rkKn ?_)); refine rkP ?_ ?_ <;> (intro hq; try (have hq' := hq; simp only [hqs] at hq')))
        | refine stp ?_
        | refine ifT ?_
        | refine ifF ?_
        | (refine ifQ ?_ ?_ <;> (try (intro hn)))
        | (refine ifB ?_ ?_ <;> (intro hq; try (have hq' := hq; simp only [hqs] at hq'))))
    exact rt1 rfl rfl finS_p rfl
instance holdsNil_i {node part : Int} : PC Tryz.prog 25 [.p (.v (.pointer none)), .p (.i node), .p (.i part)] (0 ≤ part ∧ part < 8) (.p (.b (decide (node ∈ ([] : List Int))))) := ⟨holdsNil_w node part⟩
theorem partsNil_w (node : Int) : PCall Tryz.prog 29 [.p (.v (.pointer none)), .p (.i node)] (.p (.sl 1 (([] : List Int).map iR) false)) := by
  refine pcall_of Tryz.func29 rfl (fun w0 F S0 M0 => ?_)
  repeat' (first
      | refine rnC ?_
      | refine rnSB ?_
      | refine rnG ?_
      | refine rnU ?_
      | ((fail_if_success (refine rnKn ?_)); refine rnP ?_ ?_ <;> (intro hq; try (have hq' := hq; simp only [hqs] at hq')))
      | refine rkC ?_
      | refine rkSB ?_
      | refine rkF ?_
      | refine rkU ?_
      | ((fail_if_success (refine rkKn ?_)); refine rkP ?_ ?_ <;> (intro hq; try (have hq' := hq; simp only [hqs] at hq')))
      | refine stp ?_
      | refine ifT ?_
      | refine ifF ?_
      | (refine ifQ ?_ ?_ <;> (try (intro hn)))
      | (refine ifB ?_ ?_ <;> (intro hq; try (have hq' := hq; simp only [hqs] at hq'))))
  refine aws_loopS [5, 6, 7, 8, 9, 10, 11, 12, 13, 14, 15, 16, 17, 18] [] (fun (i : Nat) => [(7, .p (.i i)), (5, .p (.v (.slice none 0 0)))]) (fun _ => []) (fun i => i ≤ 8) (fun i => 8 - i) 0 (Nat.zero_le _) (by exact knA) (by exact knA) ?_
  rintro i β γ hi
  by_cases hil : i < 8
  · have d1 : decide ((i : Int) < 8) = true := decide_eq_true (by omega)
    have d2 : decide (node ∈ ([] : List Int)) = false := decide_eq_false (by simp)
    as_aux_lemma =>
      repeat' (first
          | refine rnC ?_
          | refine rnSB ?_
          | refine rnG ?_
          | refine rnU ?_
          | ((fail_if_success (refine rnKn ?_)); refine rnP ?_ ?_ <;> (intro hq; try (have hq' := hq; simp only [hqs] at hq')))
          | refine rkC ?_
          | refine rkSB ?_
          | refine rkF ?_
          | refine rkU ?_
          | ((fail_if_success (refine rkKn ?_)); refine rkP ?_ ?_ <;> (intro hq; try (have hq' := hq; simp only [hqs] at hq')))
          | refine stp ?_
          | refine ifT ?_
          | refine ifF ?_
          | (refine ifQ ?_ ?_ <;> (try (intro hn)))
          | (refine ifB ?_ ?_ <;> (intro hq; try (have hq' := hq; simp only [hqs] at hq'))))
      exact ⟨i + 1, _, by omega, (by show i + 1 ≤ 8; omega), .refl, by exact frA⟩
  · have d1 : decide ((i : Int) < 8) = false := decide_eq_false (by omega)
    as_aux_lemma =>
      repeat' (first
          | refine rnC ?_
          | refine rnSB ?_
          | refine rnG ?_
          | refine rnU ?_
          | ((fail_if_success (refine rnKn ?_)); refine rnP ?_ ?_ <;> (intro hq; try (have hq' := hq; simp only [hqs] at hq')))
          | refine rkC ?_
          | refine rkSB ?_
          | refine rkF ?_
          | refine rkU ?_
          | ((fail_if_success (refine rkKn ?_)); refine rkP ?_ ?_ <;> (intro hq; try (have hq' := hq; simp only [hqs] at hq')))
          | refine stp ?_
          | refine ifT ?_
          | refine ifF ?_
          | (refine ifQ ?_ ?_ <;> (try (intro hn)))
          | (refine ifB ?_ ?_ <;> (intro hq; try (have hq' := hq; simp only [hqs] at hq'))))
      exact rt1 rfl rfl (.one .nil) rfl
instance partsNil_i {node : Int} : PC Tryz.prog 29 [.p (.v (.pointer none)), .p (.i node)] True (.p (.sl 1 (([] : List Int).map iR) false)) := ⟨fun _ => partsNil_w node⟩
end Go.Proofs.YthhlcdacmlnjdaaGreat.Rg
namespace Go.Proofs.YthhlcdacmlnjdaaGreat.Rg
open Go Go.RowKit Go.Aw Go.Aw.Cart Go.Aw.Ord Go.Sort Go.Proofs.YthhlcdacmlnjdaaGreat.Ca
set_option linter.unusedVariables false
set_option linter.unusedSimpArgs false
set_option maxRecDepth 8000
set_option maxHeartbeats 4000000
open PB
/-- points put in one by one -/
def insF (l : List Dot) : List Dot := l.foldl (fun S e => insI leP e S) []
theorem insF_snoc (l : List Dot) (e : Dot) : insF (l ++ [e]) = insI leP e (insF l) := by unfold insF; rw [List.foldl_append]; rfl
theorem insF_is (l : List Dot) : (l.Pairwise fun a b => a.2 ≤ b.2) → (insF l).Perm l ∧ upI ltD (insF l) := by
  refine snoc_ind (P := fun l => (l.Pairwise fun a b => a.2 ≤ b.2) → (insF l).Perm l ∧ upI ltD (insF l)) (fun _ => ⟨List.Perm.refl _, List.Pairwise.nil⟩) (fun l x ih h => ?_) l
  obtain ⟨h1, _, h2⟩ := List.pairwise_append.1 h
  obtain ⟨k1, k2⟩ := ih h1
  rw [insF_snoc]
  refine ⟨insI_perm.trans ((k1.cons _).trans (List.perm_append_comm (l₁ := [x]) (l₂ := l))), ins_up k2 fun a ha => ?_⟩
  exact h2 a (k1.mem_iff.1 ha) x (by simp)
theorem insF_all {l : List Dot} (h : l.Pairwise fun a b => a.2 ≤ b.2) : insF l = sortD l := by
  obtain ⟨h1, h2⟩ := insF_is l h
  exact up_uniq ltD_tot (h1.trans (sortD_perm l).symm) h2 (sortD_up l)
theorem insF_len (l : List Dot) : (insF l).length = l.length := by
  refine snoc_ind (P := fun l => (insF l).length = l.length) rfl (fun l x ih => ?_) l
  rw [insF_snoc, insI_perm.length_eq, List.length_cons, ih, List.length_append]; rfl
theorem rowP_2 (node : Nat) : ∀ j, ∀ x ∈ rowP node j, x.2 = node
  | 0 => fun x h => by cases h
  | j + 1 => fun x h => by
    rcases List.mem_append.1 h with k | k
    · exact rowP_2 node j x k
    · rw [List.mem_singleton.1 k]
theorem rowP_pw (node : Nat) (j : Nat) : (rowP node j).Pairwise fun a b => a.2 ≤ b.2 := List.Pairwise.imp_of_mem (R := fun _ _ => True) (fun ha hb _ => by rw [rowP_2 node j _ ha, rowP_2 node j _ hb]; omega) (List.pairwise_of_forall fun _ _ => trivial)
theorem rawP_2 (v : Nat) : ∀ k, ∀ x ∈ rawP v k, 1 ≤ x.2 ∧ x.2 ≤ k
  | 0 => fun x h => by cases h
  | k + 1 => fun x h => by
    rcases List.mem_append.1 h with q | q
    · have := rawP_2 v k x q; omega
    · have := rowP_2 (k + 1) v x q; omega
theorem rawP_pw (v : Nat) : ∀ k, (rawP v k).Pairwise fun a b => a.2 ≤ b.2
  | 0 => List.Pairwise.nil
  | k + 1 => List.pairwise_append.2 ⟨rawP_pw v k, rowP_pw (k + 1) v, fun a ha b hb => by have := rawP_2 v k a ha; have := rowP_2 (k + 1) v b hb; omega⟩
theorem insF_pts (n v : Nat) : insF (rawP v n) = pts n v := insF_all (rawP_pw v n)
theorem map_ins1 (S : List Dot) (e : Dot) (k : Nat) (hk : k = atI leP e S) : (insI leP e S).map (·.1) = (S.map (·.1)).take k ++ [e.1] ++ (S.map (·.1)).drop k := by
  rw [insI, List.map_append, List.map_cons, ← hk, List.map_take, List.map_drop, List.append_assoc]; rfl
theorem map_ins2 (S : List Dot) (e : Dot) (k : Nat) (hk : k = atI leP e S) : (insI leP e S).map (·.2) = (S.map (·.2)).take k ++ [e.2] ++ (S.map (·.2)).drop k := by
  rw [insI, List.map_append, List.map_cons, ← hk, List.map_take, List.map_drop, List.append_assoc]; rfl
abbrev JD := Nat × Option MO
theorem refRing_w (n v : Nat) (hn : n ≤ 8) (hv : v ≤ 16) : PCall Tryz.prog 31 [.p (.i n), .p (.i v)] (.tup [.one (.p (.sl 1 (((pts n v).map (·.1)).map uR) false)), .one (.p (.sl 1 (((pts n v).map (·.2)).map iR) false))]) := by
  refine pcall_of Tryz.func31 rfl (fun w0 F S0 M0 => ?_)
  repeat' (first
      | refine rnC ?_
      | refine rnSB ?_
      | refine rnG ?_
      | refine rnU ?_
      | ((fail_if_success (refine rnKn ?_)); refine rnP ?_ ?_ <;> (intro hq; try (have hq' := hq; simp only [hqs] at hq')))
      | refine rkC ?_
      | refine rkSB ?_
      | refine rkF ?_
      | refine rkU ?_
      | ((fail_if_success (refine rkKn ?_)); refine rkP ?_ ?_ <;> (intro hq; try (have hq' := hq; simp only [hqs] at hq')))
      | refine stp ?_
      | refine ifT ?_
      | refine ifF ?_
      | (refine ifQ ?_ ?_ <;> (try (intro hn)))
      | (refine ifB ?_ ?_ <;> (intro hq; try (have hq' := hq; simp only [hqs] at hq'))))
  refine aws_says (says_nils (t := 6) (es := 1) rfl) ?_
  refine aws_says (says_inex (t := 6) rfl) ?_
  refine aws_says (says_nils (t := 7) (es := 1) rfl) ?_
  refine aws_says (says_inex (t := 7) rfl) ?_
  refine aws_loopS [6, 7, 8, 9, 10, 11, 12, 13, 14, 15, 16, 17, 18, 19, 20, 21, 22, 23, 24, 25, 26, 27, 28, 29, 30, 31, 32, 33, 34, 35, 36, 37, 38, 39, 40, 41, 42, 43, 44, 45, 46, 47, 48, 49, 50, 51, 52, 53, 54, 55, 56, 57, 58, 59, 60, 61, 62, 63, 64] [45, 57] (fun (x : Nat × List Int × List Int × JD × JD) => [(8, .p (.i (x.1 + 1))), (6, .p (.sl 1 (x.2.1.map uR) false)), (7, .p (.sl 1 (x.2.2.1.map iR) false))]) (fun x => [(45, x.2.2.2.1), (57, x.2.2.2.2)])
    (fun x => x.1 ≤ n ∧ x.2.1 = (insF (rawP v x.1)).map (·.1) ∧ x.2.2.1 = (insF (rawP v x.1)).map (·.2)) (fun x => n - x.1) (0, [], [], (0, none), (0, none)) ⟨Nat.zero_le _, rfl, rfl⟩ (by exact knA) (by exact knA) ?_
  rintro ⟨k, P, O, ⟨g1, m1⟩, ⟨g2, m2⟩⟩ β γ ⟨hk, hP, hO⟩
  dsimp only at hk hP hO ⊢
  by_cases hkn : k < n
  case neg =>
    have d1 : decide ((k : Int) + 1 ≤ (n : Int)) = false := decide_eq_false (by omega)
    obtain rfl : k = n := by omega
    rw [insF_pts] at hP hO
    rw [← hP, ← hO]
    as_aux_lemma =>
      repeat' (first
          | refine rnC ?_
          | refine rnSB ?_
          | refine rnG ?_
          | refine rnU ?_
          | ((fail_if_success (refine rnKn ?_)); refine rnP ?_ ?_ <;> (intro hq; try (have hq' := hq; simp only [hqs] at hq')))
          | refine rkC ?_
          | refine rkSB ?_
          | refine rkF ?_
          | refine rkU ?_
          | ((fail_if_success (refine rkKn ?_)); refine rkP ?_ ?_ <;> (intro hq; try (have hq' := hq; simp only [hqs] at hq')))
          | refine stp ?_
          | refine ifT ?_
          | refine ifF ?_
          | (refine ifQ ?_ ?_ <;> (try (intro hn)))
          | (refine ifB ?_ ?_ <;> (intro hq; try (have hq' := hq; simp only [hqs] at hq'))))
      exact rt2 rfl rfl finS_p rfl finS_p rfl
  have d1 : decide ((k : Int) + 1 ≤ (n : Int)) = true := decide_eq_true (by omega)
  repeat' (first
      | refine rnC ?_
      | refine rnSB ?_
      | refine rnG ?_
      | refine rnU ?_
      | ((fail_if_success (refine rnKn ?_)); refine rnP ?_ ?_ <;> (intro hq; try (have hq' := hq; simp only [hqs] at hq')))
      | refine rkC ?_
      | refine rkSB ?_
      | refine rkF ?_
      | refine rkU ?_
      | ((fail_if_success (refine rkKn ?_)); refine rkP ?_ ?_ <;> (intro hq; try (have hq' := hq; simp only [hqs] at hq')))
      | refine stp ?_
      | refine ifT ?_
      | refine ifF ?_
      | (refine ifQ ?_ ?_ <;> (try (intro hn)))
      | (refine ifB ?_ ?_ <;> (intro hq; try (have hq' := hq; simp only [hqs] at hq'))))
  refine aws_loopS [6, 7, 9, 10, 11, 12, 13, 19, 20, 21, 22, 23, 24, 25, 26, 27, 28, 29, 30, 31, 32, 33, 34, 35, 36, 37, 38, 39, 40, 41, 42, 43, 44, 45, 46, 47, 48, 49, 50, 51, 52, 53, 54, 55, 56, 57, 58, 59, 60, 61, 62, 63, 64] [45, 57] (fun (x : Nat × List Int × List Int × JD × JD) => [(9, .p (.i x.1)), (6, .p (.sl 1 (x.2.1.map uR) false)), (7, .p (.sl 1 (x.2.2.1.map iR) false))]) (fun x => [(45, x.2.2.2.1), (57, x.2.2.2.2)])
    (fun x => x.1 ≤ v ∧ x.2.1 = (insF (rawP v k ++ rowP (k + 1) x.1)).map (·.1) ∧ x.2.2.1 = (insF (rawP v k ++ rowP (k + 1) x.1)).map (·.2)) (fun x => v - x.1) (0, P, O, (g1, m1), (g2, m2)) ⟨Nat.zero_le _, by rw [rowP, List.append_nil]; exact hP, by rw [rowP, List.append_nil]; exact hO⟩ (by exact knA) (by exact knA) ?_
  clear hP hO
  rintro ⟨j, P, O, ⟨g1, m1⟩, ⟨g2, m2⟩⟩ β γ ⟨hj, hP, hO⟩
  dsimp only at hj hP hO ⊢
  by_cases hjv : j < v
  case neg =>
    have d2 : decide ((j : Int) < (v : Int)) = false := decide_eq_false (by omega)
    obtain rfl : j = v := by omega
    as_aux_lemma =>
      repeat' (first
          | refine rnC ?_
          | refine rnSB ?_
          | refine rnG ?_
          | refine rnU ?_
          | ((fail_if_success (refine rnKn ?_)); refine rnP ?_ ?_ <;> (intro hq; try (have hq' := hq; simp only [hqs] at hq')))
          | refine rkC ?_
          | refine rkSB ?_
          | refine rkF ?_
          | refine rkU ?_
          | ((fail_if_success (refine rkKn ?_)); refine rkP ?_ ?_ <;> (intro hq; try (have hq' := hq; simp only [hqs] at hq')))
          | refine stp ?_
          | refine ifT ?_
          | refine ifF ?_
          | (refine ifQ ?_ ?_ <;> (try (intro hn)))
          | (refine ifB ?_ ?_ <;> (intro hq; try (have hq' := hq; simp only [hqs] at hq'))))
      exact ⟨(k + 1, P, O, (_, _), (_, _)), _, by dsimp only; omega, ⟨by dsimp only; omega, hP, hO⟩, .refl, by exact frA⟩
  have d2 : decide ((j : Int) < (v : Int)) = true := decide_eq_true (by omega)
  obtain ⟨l, hl⟩ : ∃ l, l = rawP v k ++ rowP (k + 1) j := ⟨_, rfl⟩
  have hll : l.length ≤ 144 := by
    rw [hl, List.length_append, rawP_len, rowP_len]
    have : k * v ≤ 8 * 16 := Nat.mul_le_mul (by omega) hv
    omega
  have hnext : rawP v k ++ rowP (k + 1) (j + 1) = l ++ [(ptF ((k : Int) + 1) j, (k : Int) + 1)] := by rw [hl, rowP, ← List.append_assoc]; rfl
  rw [← hl] at hP hO
  have hSl := insF_len l
  obtain ⟨S, hS⟩ : ∃ S, S = insF l := ⟨_, rfl⟩
  rw [← hS] at hP hO hSl
  have pl : P.length = S.length := by rw [hP, List.length_map]
  have ol : O.length = S.length := by rw [hO, List.length_map]
  have pg : ∀ i : Nat, i < S.length → P.getD i default = (S.getD i default).1 := fun i hi => by rw [hP]; exact mapD1 hi
  obtain ⟨e, he⟩ : ∃ e : Dot, e = (ptF ((k : Int) + 1) j, (k : Int) + 1) := ⟨_, rfl⟩
  have q1 : ∀ a, a = atI leP e S → (insF (rawP v k ++ rowP (k + 1) (j + 1))).map (·.1) = P.take a ++ [ptF ((k : Int) + 1) j] ++ P.drop a := fun a ha => by rw [hnext, insF_snoc, ← hS, ← he, map_ins1 S e a ha, ← hP, he]
  have q2 : ∀ a, a = atI leP e S → (insF (rawP v k ++ rowP (k + 1) (j + 1))).map (·.2) = O.take a ++ [(k : Int) + 1] ++ O.drop a := fun a ha => by rw [hnext, insF_snoc, ← hS, ← he, map_ins2 S e a ha, ← hO, he]
  have hle := atI_le (lt := leP) (e := e) (l := S)
  repeat' (first
      | refine rnC ?_
      | refine rnSB ?_
      | refine rnG ?_
      | refine rnU ?_
      | ((fail_if_success (refine rnKn ?_)); refine rnP ?_ ?_ <;> (intro hq; try (have hq' := hq; simp only [hqs] at hq')))
      | refine rkC ?_
      | refine rkSB ?_
      | refine rkF ?_
      | refine rkU ?_
      | ((fail_if_success (refine rkKn ?_)); refine rkP ?_ ?_ <;> (intro hq; try (have hq' := hq; simp only [hqs] at hq')))
      | refine stp ?_
      | refine ifT ?_
      | refine ifF ?_
      | (refine ifQ ?_ ?_ <;> (try (intro hn)))
      | (refine ifB ?_ ?_ <;> (intro hq; try (have hq' := hq; simp only [hqs] at hq'))))
  refine aws_loopS [11, 27, 28, 29, 30, 31, 32, 33, 34, 35, 36, 37, 38, 39, 40] [] (fun (a : Nat) => [(11, .p (.i a))]) (fun _ => []) (fun a => a ≤ atI leP e S) (fun a => S.length - a) 0 (Nat.zero_le _) (by exact knA) (by exact knA) ?_
  intro a β γ ha
  by_cases hal : a < S.length
  · have t1 : decide ((a : Int) < (P.length : Int)) = true := decide_eq_true (by omega)
    by_cases hlt : P.getD (a : Int).toNat default ≤ ptF ((k : Int) + 1) j
    · have t2 : decide (P.getD (a : Int).toNat default ≤ ptF ((k : Int) + 1) j) = true := decide_eq_true hlt
      have ha' := atI_go ha hal (show leP (S.getD a default) e by rw [Int.toNat_natCast, pg a hal] at hlt; rw [he]; exact hlt)
      as_aux_lemma =>
        repeat' (first
            | refine rnC ?_
            | refine rnSB ?_
            | refine rnG ?_
            | refine rnU ?_
            | ((fail_if_success (refine rnKn ?_)); refine rnP ?_ ?_ <;> (intro hq; try (have hq' := hq; simp only [hqs] at hq')))
            | refine rkC ?_
            | refine rkSB ?_
            | refine rkF ?_
            | refine rkU ?_
            | ((fail_if_success (refine rkKn ?_)); refine rkP ?_ ?_ <;> (intro hq; try (have hq' := hq; simp only [hqs] at hq')))
            | refine stp ?_
            | refine ifT ?_
            | refine ifF ?_
            | (refine ifQ ?_ ?_ <;> (try (intro hn)))
            | (refine ifB ?_ ?_ <;> (intro hq; try (have hq' := hq; simp only [hqs] at hq'))))
        exact ⟨a + 1, _, by omega, ha', .refl, by exact frA⟩
    · have t2 : decide (P.getD (a : Int).toNat default ≤ ptF ((k : Int) + 1) j) = false := decide_eq_false hlt
      have ha' := atI_end ha (show ¬ leP (S.getD a default) e by rw [Int.toNat_natCast, pg a hal] at hlt; rw [he]; exact hlt)
      have r1 := q1 (a : Int).toNat (by rw [Int.toNat_natCast]; exact ha')
      have r2 := q2 (a : Int).toNat (by rw [Int.toNat_natCast]; exact ha')
      repeat' (first
          | refine rnC ?_
          | refine rnSB ?_
          | refine rnG ?_
          | refine rnU ?_
          | ((fail_if_success (refine rnKn ?_)); refine rnP ?_ ?_ <;> (intro hq; try (have hq' := hq; simp only [hqs] at hq')))
          | refine rkC ?_
          | refine rkSB ?_
          | refine rkF ?_
          | refine rkU ?_
          | ((fail_if_success (refine rkKn ?_)); refine rkP ?_ ?_ <;> (intro hq; try (have hq' := hq; simp only [hqs] at hq')))
          | refine stp ?_
          | refine ifT ?_
          | refine ifF ?_
          | (refine ifQ ?_ ?_ <;> (try (intro hn)))
          | (refine ifB ?_ ?_ <;> (intro hq; try (have hq' := hq; simp only [hqs] at hq'))))
      refine aws_draws [(4, 45), (7, 45), (11, 45)] mixed (by kernel_rfl) ?_
      repeat' (first
          | refine rk_nil ?_
          | refine rkC ?_
          | refine rkSB ?_
          | refine rkF ?_
          | refine rkU ?_
          | ((fail_if_success (refine rkKn ?_)); refine rkP ?_ ?_ <;> (intro hq; try (have hq' := hq; simp only [hqs] at hq'))))
      repeat' (first
          | refine rnC ?_
          | refine rnSB ?_
          | refine rnG ?_
          | refine rnU ?_
          | ((fail_if_success (refine rnKn ?_)); refine rnP ?_ ?_ <;> (intro hq; try (have hq' := hq; simp only [hqs] at hq')))
          | refine rkC ?_
          | refine rkSB ?_
          | refine rkF ?_
          | refine rkU ?_
          | ((fail_if_success (refine rkKn ?_)); refine rkP ?_ ?_ <;> (intro hq; try (have hq' := hq; simp only [hqs] at hq')))
          | refine stp ?_
          | refine ifT ?_
          | refine ifF ?_
          | (refine ifQ ?_ ?_ <;> (try (intro hn)))
          | (refine ifB ?_ ?_ <;> (intro hq; try (have hq' := hq; simp only [hqs] at hq'))))
      refine aws_draws [(4, 57), (7, 57), (11, 57)] mixed (by kernel_rfl) ?_
      repeat' (first
          | refine rk_nil ?_
          | refine rkC ?_
          | refine rkSB ?_
          | refine rkF ?_
          | refine rkU ?_
          | ((fail_if_success (refine rkKn ?_)); refine rkP ?_ ?_ <;> (intro hq; try (have hq' := hq; simp only [hqs] at hq'))))
      refine aws_nil ?_
      refine blk_normal ?_
      refine aws_says (says_frz (t := 6) (o := 45) rfl rfl rfl (by simp)) ?_
      refine aws_says (says_frz (t := 7) (o := 57) rfl rfl rfl (by simp)) ?_
      as_aux_lemma =>
        repeat' (first
            | refine rnC ?_
            | refine rnSB ?_
            | refine rnG ?_
            | refine rnU ?_
            | ((fail_if_success (refine rnKn ?_)); refine rnP ?_ ?_ <;> (intro hq; try (have hq' := hq; simp only [hqs] at hq')))
            | refine rkC ?_
            | refine rkSB ?_
            | refine rkF ?_
            | refine rkU ?_
            | ((fail_if_success (refine rkKn ?_)); refine rkP ?_ ?_ <;> (intro hq; try (have hq' := hq; simp only [hqs] at hq')))
            | refine stp ?_
            | refine ifT ?_
            | refine ifF ?_
            | (refine ifQ ?_ ?_ <;> (try (intro hn)))
            | (refine ifB ?_ ?_ <;> (intro hq; try (have hq' := hq; simp only [hqs] at hq'))))
        exact ⟨(j + 1, P.take (a : Int).toNat ++ [ptF ((k : Int) + 1) j] ++ P.drop (a : Int).toNat, O.take (a : Int).toNat ++ [(k : Int) + 1] ++ O.drop (a : Int).toNat, (_, _), (_, _)), _, by dsimp only; omega, ⟨by dsimp only; omega, r1.symm, r2.symm⟩, .refl, by exact frA⟩
  · have t1 : decide ((a : Int) < (P.length : Int)) = false := decide_eq_false (by omega)
    have ha' : a = atI leP e S := by omega
    have r1 := q1 (a : Int).toNat (by rw [Int.toNat_natCast]; exact ha')
    have r2 := q2 (a : Int).toNat (by rw [Int.toNat_natCast]; exact ha')
    repeat' (first
        | refine rnC ?_
        | refine rnSB ?_
        | refine rnG ?_
        | refine rnU ?_
        | ((fail_if_success (refine rnKn ?_)); refine rnP ?_ ?_ <;> (intro hq; try (have hq' := hq; simp only [hqs] at hq')))
        | refine rkC ?_
        | refine rkSB ?_
        | refine rkF ?_
        | refine rkU ?_
        | ((fail_if_success (refine rkKn ?_)); refine rkP ?_ ?_ <;> (intro hq; try (have hq' := hq; simp only [hqs] at hq')))
        | refine stp ?_
        | refine ifT ?_
        | refine ifF ?_
        | (refine ifQ ?_ ?_ <;> (try (intro hn)))
        | (refine ifB ?_ ?_ <;> (intro hq; try (have hq' := hq; simp only [hqs] at hq'))))
    refine aws_draws [(4, 45), (7, 45), (11, 45)] mixed (by kernel_rfl) ?_
    repeat' (first
        | refine rk_nil ?_
        | refine rkC ?_
        | refine rkSB ?_
        | refine rkF ?_
        | refine rkU ?_
        | ((fail_if_success (refine rkKn ?_)); refine rkP ?_ ?_ <;> (intro hq; try (have hq' := hq; simp only [hqs] at hq'))))
    repeat' (first
        | refine rnC ?_
        | refine rnSB ?_
        | refine rnG ?_
        | refine rnU ?_
        | ((fail_if_success (refine rnKn ?_)); refine rnP ?_ ?_ <;> (intro hq; try (have hq' := hq; simp only [hqs] at hq')))
        | refine rkC ?_
        | refine rkSB ?_
        | refine rkF ?_
        | refine rkU ?_
        | ((fail_if_success (refine rkKn ?_)); refine rkP ?_ ?_ <;> (intro hq; try (have hq' := hq; simp only [hqs] at hq')))
        | refine stp ?_
        | refine ifT ?_
        | refine ifF ?_
        | (refine ifQ ?_ ?_ <;> (try (intro hn)))
        | (refine ifB ?_ ?_ <;> (intro hq; try (have hq' := hq; simp only [hqs] at hq'))))
    refine aws_draws [(4, 57), (7, 57), (11, 57)] mixed (by kernel_rfl) ?_
    repeat' (first
        | refine rk_nil ?_
        | refine rkC ?_
        | refine rkSB ?_
        | refine rkF ?_
        | refine rkU ?_
        | ((fail_if_success (refine rkKn ?_)); refine rkP ?_ ?_ <;> (intro hq; try (have hq' := hq; simp only [hqs] at hq'))))
    refine aws_nil ?_
    refine blk_normal ?_
    refine aws_says (says_frz (t := 6) (o := 45) rfl rfl rfl (by simp)) ?_
    refine aws_says (says_frz (t := 7) (o := 57) rfl rfl rfl (by simp)) ?_
    as_aux_lemma =>
      repeat' (first
          | refine rnC ?_
          | refine rnSB ?_
          | refine rnG ?_
          | refine rnU ?_
          | ((fail_if_success (refine rnKn ?_)); refine rnP ?_ ?_ <;> (intro hq; try (have hq' := hq; simp only [hqs] at hq')))
          | refine rkC ?_
          | refine rkSB ?_
          | refine rkF ?_
          | refine rkU ?_
          | ((fail_if_success (refine rkKn ?_)); refine rkP ?_ ?_ <;> (intro hq; try (have hq' := hq; simp only [hqs] at hq')))
          | refine stp ?_
          | refine ifT ?_
          | refine ifF ?_
          | (refine ifQ ?_ ?_ <;> (try (intro hn)))
          | (refine ifB ?_ ?_ <;> (intro hq; try (have hq' := hq; simp only [hqs] at hq'))))
      exact ⟨(j + 1, P.take (a : Int).toNat ++ [ptF ((k : Int) + 1) j] ++ P.drop (a : Int).toNat, O.take (a : Int).toNat ++ [(k : Int) + 1] ++ O.drop (a : Int).toNat, (_, _), (_, _)), _, by dsimp only; omega, ⟨by dsimp only; omega, r1.symm, r2.symm⟩, .refl, by exact frA⟩
end Go.Proofs.YthhlcdacmlnjdaaGreat.Rg
