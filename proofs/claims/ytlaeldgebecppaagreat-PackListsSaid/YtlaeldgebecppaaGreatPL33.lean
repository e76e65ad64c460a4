/- the reference's writers: whole numbers, texts, vectors; the reference's writers: carts and lists -/
import Derived.Test.YtlaeldgebecppaaGreatPL32
namespace Go.Proofs.YtlaeldgebecppaaGreat.Wi
open Go Go.RowKit Go.Aw Go.Aw.Cart Go.Proofs.YtlaeldgebecppaaGreat.Ca
set_option linter.unusedVariables false
set_option linter.unusedSimpArgs false
set_option maxRecDepth 8000
set_option maxHeartbeats 4000000
theorem numB_le (x : Nat) : (numB x).length ≤ 9 := by
  have := beF_le 8 x
  show (beF 8 x).length + 1 ≤ 9
  omega
theorem refText_w (b : List Nat) (hb : b.length ≤ 1000000000) : PCall Tryz.prog 98 [.p (.sl 1 (b.map bR) false)] (.p (.sl 1 ((textB b).map bR) false)) := by
  refine pcall_of Tryz.func98 rfl (fun w0 F S0 M0 => ?_)
  have hw : IntKind.u64.wrap (b.length : Int) = (b.length : Int) := u64_in (by omega)
  haveI : ∀ c k : Nat, OC Tryz.prog 97 [.p (.k .u64 (b.length : Int))] [] [(c, k)] True (.o (.osl c (k + 1) 1 0 (numB b.length).length)) [(c, (k + 2, some (.buf 5 1 ((numB b.length).map bR))))] := fun c k => ⟨fun _ => (refNum_o b.length (by omega)).fresh1 c k⟩
  have hl := numB_le b.length
  unfold textB
  generalize numB b.length = N at this hl ⊢
  open W6 in
  as_aux_lemma =>
    repeat' (first | refine rnC ?_ | refine rnSB ?_ | refine rnG ?_ | refine rnU ?_ | ((fail_if_success (refine rnKn ?_)); refine rnP ?_ ?_ <;> (intro hq; try (have hq' := hq; simp only [hqs] at hq'))) | refine rkC ?_ | refine rkSB ?_ | refine rkF ?_ | refine rkU ?_ | ((fail_if_success (refine rkKn ?_)); refine rkP ?_ ?_ <;> (intro hq; try (have hq' := hq; simp only [hqs] at hq'))) | refine stp ?_ | refine ifT ?_ | refine ifF ?_ | (refine ifQ ?_ ?_ <;> (try (intro hn))) | (refine ifB ?_ ?_ <;> (intro hq; try (have hq' := hq; simp only [hqs] at hq'))))
    exact rt1 rfl rfl (.one (finC_map rfl rfl rfl rfl)) rfl
theorem refInt_w (n : Int) (hn : -1000000000 ≤ n ∧ n ≤ 1000000000) : PCall Tryz.prog 171 [.p (.i n)] (.p (.sl 1 ((intB n).map bR) false)) := by
  refine pcall_of Tryz.func171 rfl (fun w0 F S0 M0 => ?_)
  have hmd : md .u64 = 18446744073709551616 := rfl
  unfold intB zig
  by_cases h : 0 ≤ n
  · have d1 : decide (0 ≤ n) = true := decide_eq_true h
    rw [if_pos h]
    obtain ⟨m, rfl⟩ : ∃ m : Nat, n = m := ⟨n.toNat, by omega⟩
    have hw : IntKind.u64.wrap (m : Int) = (m : Int) := u64_in (by omega)
    have e : (2 * (m : Int)).toNat = 2 * m % md .u64 := by rw [hmd]; omega
    rw [e]
    haveI : PC Tryz.prog 97 [.p (.k .u64 ((2 * m % md .u64 : Nat) : Int))] True (.p (.sl 1 ((numB (2 * m % md .u64)).map bR) false)) := ⟨fun _ => refNum_w _ (by rw [hmd]; omega)⟩
    open W6 in
    as_aux_lemma =>
      repeat' (first | refine rnC ?_ | refine rnSB ?_ | refine rnG ?_ | refine rnU ?_ | ((fail_if_success (refine rnKn ?_)); refine rnP ?_ ?_ <;> (intro hq; try (have hq' := hq; simp only [hqs] at hq'))) | refine rkC ?_ | refine rkSB ?_ | refine rkF ?_ | refine rkU ?_ | ((fail_if_success (refine rkKn ?_)); refine rkP ?_ ?_ <;> (intro hq; try (have hq' := hq; simp only [hqs] at hq'))) | refine stp ?_ | refine ifT ?_ | refine ifF ?_ | (refine ifQ ?_ ?_ <;> (try (intro hn))) | (refine ifB ?_ ?_ <;> (intro hq; try (have hq' := hq; simp only [hqs] at hq'))))
      first | exact rt1 rfl rfl finS_p rfl | exact rt1 rfl rfl (.one (finC_map rfl rfl rfl rfl)) rfl
  · have d1 : decide (0 ≤ n) = false := decide_eq_false h
    rw [if_neg h]
    obtain ⟨k, rfl⟩ : ∃ k : Nat, n = -(k : Int) - 1 := ⟨(-n - 1).toNat, by omega⟩
    have hw : IntKind.u64.wrap (0 - (-(k : Int) - 1 + 1)) = (k : Int) := by rw [show 0 - (-(k : Int) - 1 + 1) = (k : Int) by omega]; exact u64_in (by omega)
    have e : (2 * (-(-(k : Int) - 1) - 1) + 1).toNat = (2 * k % md .u64 + 1) % md .u64 := by rw [hmd]; omega
    rw [e]
    haveI : PC Tryz.prog 97 [.p (.k .u64 (((2 * k % md .u64 + 1) % md .u64 : Nat) : Int))] True (.p (.sl 1 ((numB ((2 * k % md .u64 + 1) % md .u64)).map bR) false)) := ⟨fun _ => refNum_w _ (by rw [hmd]; omega)⟩
    open W6 in
    as_aux_lemma =>
      repeat' (first | refine rnC ?_ | refine rnSB ?_ | refine rnG ?_ | refine rnU ?_ | ((fail_if_success (refine rnKn ?_)); refine rnP ?_ ?_ <;> (intro hq; try (have hq' := hq; simp only [hqs] at hq'))) | refine rkC ?_ | refine rkSB ?_ | refine rkF ?_ | refine rkU ?_ | ((fail_if_success (refine rkKn ?_)); refine rkP ?_ ?_ <;> (intro hq; try (have hq' := hq; simp only [hqs] at hq'))) | refine stp ?_ | refine ifT ?_ | refine ifF ?_ | (refine ifQ ?_ ?_ <;> (try (intro hn))) | (refine ifB ?_ ?_ <;> (intro hq; try (have hq' := hq; simp only [hqs] at hq'))))
      first | exact rt1 rfl rfl finS_p rfl | exact rt1 rfl rfl (.one (finC_map rfl rfl rfl rfl)) rfl
theorem vecB_take {v : List Int} {i : Nat} (h : i < v.length) : vecB (v.take (i + 1)) = vecB (v.take i) ++ numI (v.getD i default) := by
  unfold vecB
  rw [List.take_succ_eq_append_getElem h, List.flatMap_append, List.getD_eq_getElem?_getD, List.getElem?_eq_getElem h]
  simp
theorem vecB_le (v : List Int) : (vecB v).length ≤ 9 * v.length := by
  unfold vecB
  induction v with
  | nil => exact Nat.le_refl _
  | cons a l ih =>
    rw [List.flatMap_cons, List.length_append, List.length_cons]
    have : (numI a).length ≤ 9 := numB_le a.toNat
    omega
theorem refVec_o (v : List Int) (hv : vecOk v) : OCall Tryz.prog 170 [vV v] (fun _ => (0, none)) (.o (.osl 14 8 1 0 (vecB v).length)) (memL [(14, (9, some (.buf 5 1 ((vecB v).map bR))))]) := by
  refine ocall_ofF 14 Tryz.func170 rfl (fun w0 F S0 M0 => ?_)
  have h8 := hv.1
  open W6 in
  repeat' (first | refine rnC ?_ | refine rnSB ?_ | refine rnG ?_ | refine rnU ?_ | ((fail_if_success (refine rnKn ?_)); refine rnP ?_ ?_ <;> (intro hq; try (have hq' := hq; simp only [hqs] at hq'))) | refine rkC ?_ | refine rkSB ?_ | refine rkF ?_ | refine rkU ?_ | ((fail_if_success (refine rkKn ?_)); refine rkP ?_ ?_ <;> (intro hq; try (have hq' := hq; simp only [hqs] at hq'))) | refine stp ?_ | refine ifT ?_ | refine ifF ?_ | (refine ifQ ?_ ?_ <;> (try (intro hn))) | (refine ifB ?_ ?_ <;> (intro hq; try (have hq' := hq; simp only [hqs] at hq'))))
  refine aws_says (says_nil (t := 3) (o := 14) (es := 1) (ty := 5) rfl rfl (by decide)) ?_
  refine aws_loopS [3, 4, 5, 6, 7, 8, 9, 10, 11, 12, 13, 14] [14] (fun (x : Nat × List Nat) => [(4, .p (.i x.1)), (3, .o (.osl 14 x.1 1 0 x.2.length))]) (fun x => [(14, (x.1 + 1, some (.buf 5 1 (x.2.map bR))))]) (fun x => x.1 ≤ 8 ∧ x.2 = vecB (v.take x.1)) (fun x => 8 - x.1) (0, []) ⟨Nat.zero_le _, rfl⟩ (by exact knA) (by exact knA) ?_
  rintro ⟨i, out⟩ β γ ⟨hi, ho⟩
  dsimp only at hi ho ⊢
  have hol : out.length ≤ 72 := by
    have := vecB_le (v.take i)
    rw [← ho, List.length_take] at this; omega
  by_cases hil : i < 8
  · have d1 : decide ((i : Int) < 8) = true := decide_eq_true (by omega)
    have hix : i < v.length := by omega
    have hs := vecB_take hix
    rw [← ho, show v.getD i default = v.getD (i : Int).toNat default by rw [Int.toNat_natCast]] at hs
    have hb : 0 ≤ v.getD (i : Int).toNat default ∧ v.getD (i : Int).toNat default < 18446744073709551616 := by
      rw [Int.toNat_natCast, List.getD_eq_getElem?_getD, List.getElem?_eq_getElem hix]; exact hv.2 _ (List.getElem_mem _)
    have cN := refNum_w (v.getD (i : Int).toNat default).toNat (by omega)
    rw [Int.toNat_of_nonneg hb.1] at cN
    have hnl : (numI (v.getD (i : Int).toNat default)).length ≤ 9 := numB_le _
    haveI : PC Tryz.prog 97 [.p (.k .u64 (v.getD (i : Int).toNat default))] True (.p (.sl 1 ((numI (v.getD (i : Int).toNat default)).map bR) false)) := ⟨fun _ => cN⟩
    generalize numI (v.getD (i : Int).toNat default) = N at this hs hnl
    clear ho cN
    open W6 in
    as_aux_lemma =>
      repeat' (first | refine rnC ?_ | refine rnSB ?_ | refine rnG ?_ | refine rnU ?_ | ((fail_if_success (refine rnKn ?_)); refine rnP ?_ ?_ <;> (intro hq; try (have hq' := hq; simp only [hqs] at hq'))) | refine rkC ?_ | refine rkSB ?_ | refine rkF ?_ | refine rkU ?_ | ((fail_if_success (refine rkKn ?_)); refine rkP ?_ ?_ <;> (intro hq; try (have hq' := hq; simp only [hqs] at hq'))) | refine stp ?_ | refine ifT ?_ | refine ifF ?_ | (refine ifQ ?_ ?_ <;> (try (intro hn))) | (refine ifB ?_ ?_ <;> (intro hq; try (have hq' := hq; simp only [hqs] at hq'))))
      exact ⟨(i + 1, out ++ N), _, by dsimp only; omega, ⟨by dsimp only; omega, hs.symm⟩, .refl, by exact frA⟩
  · have d1 : decide ((i : Int) < 8) = false := decide_eq_false (by omega)
    obtain rfl : i = 8 := by omega
    rw [List.take_of_length_le (by omega)] at ho
    rw [← ho]
    clear ho
    open W6 in
    as_aux_lemma =>
      repeat' (first | refine rnC ?_ | refine rnSB ?_ | refine rnG ?_ | refine rnU ?_ | ((fail_if_success (refine rnKn ?_)); refine rnP ?_ ?_ <;> (intro hq; try (have hq' := hq; simp only [hqs] at hq'))) | refine rkC ?_ | refine rkSB ?_ | refine rkF ?_ | refine rkU ?_ | ((fail_if_success (refine rkKn ?_)); refine rkP ?_ ?_ <;> (intro hq; try (have hq' := hq; simp only [hqs] at hq'))) | refine stp ?_ | refine ifT ?_ | refine ifF ?_ | (refine ifQ ?_ ?_ <;> (try (intro hn))) | (refine ifB ?_ ?_ <;> (intro hq; try (have hq' := hq; simp only [hqs] at hq'))))
      exact RetO.mk (ot1 rfl rfl (.one (.kosl rfl)) rfl) ⟨.buf, trivial⟩
end Go.Proofs.YtlaeldgebecppaaGreat.Wi
namespace Go.Proofs.YtlaeldgebecppaaGreat.Wi
open Go Go.RowKit Go.Aw Go.Aw.Cart Go.Proofs.YtlaeldgebecppaaGreat.Ca
set_option linter.unusedVariables false
set_option linter.unusedSimpArgs false
set_option maxRecDepth 8000
set_option maxHeartbeats 4000000
theorem ren_vVF (q c n : Nat) (v : List Int) : AV.ren (rnF q c n) (vV v) = vV v := by
  show AV.a ((v.map _).map _) = _
  rw [List.map_map]; rfl
theorem refVec_i {c k : Nat} {v : List Int} (hv : vecOk v) : OC Tryz.prog 170 [vV v] [] [(c, k)] True (.o (.osl c (k + 8) 1 0 (vecB v).length)) [(c, (k + 9, some (.buf 5 1 ((vecB v).map bR))))] := ⟨fun _ => by have := (refVec_o v hv).fresh1 c k; rw [List.map_cons, List.map_nil, ren_vVF] at this; exact this⟩
theorem refNumI (n : Int) (h : 0 ≤ n ∧ n < 18446744073709551616) : PC Tryz.prog 97 [.p (.k .u64 n)] True (.p (.sl 1 ((numI n).map bR) false)) := ⟨fun _ => by
  have cN := refNum_w n.toNat (by omega)
  rw [Int.toNat_of_nonneg h.1] at cN
  exact cN⟩
theorem entB_take {l : List Ent} {i : Nat} (h : i < l.length) : (l.take (i + 1)).flatMap entB = (l.take i).flatMap entB ++ entB (l.getD i default) := by
  rw [List.take_succ_eq_append_getElem h, List.flatMap_append, List.getD_eq_getElem?_getD, List.getElem?_eq_getElem h]
  simp
theorem entB_le (e : Ent) : (entB e).length ≤ 36 := by
  unfold entB
  simp only [List.length_append]
  have h1 : (numI e.1).length ≤ 9 := numB_le _
  have h2 : (numI e.2.1).length ≤ 9 := numB_le _
  have h3 : (numI e.2.2.1).length ≤ 9 := numB_le _
  have h4 : (intB e.2.2.2).length ≤ 9 := numB_le _
  omega
theorem entsB_le (l : List Ent) : (l.flatMap entB).length ≤ 36 * l.length := by
  induction l with
  | nil => exact Nat.le_refl _
  | cons a l ih =>
    rw [List.flatMap_cons, List.length_append, List.length_cons]
    have := entB_le a
    omega
theorem refWrite_w (v : List Int) (l : List Ent) (ex : Bool) (hv : vecOk v) (hl : l.length ≤ 400) (he : ∀ e ∈ l, entOk e) : PCall Tryz.prog 99 [cV v l ex] (.p (.sl 1 ((cartB (v, l)).map bR) false)) := by
  refine pcall_of Tryz.func99 rfl (fun w0 F S0 M0 => ?_)
  have hw : IntKind.u64.wrap (l.length : Int) = (l.length : Int) := u64_in (by omega)
  have h8 := hv.1
  have hvl := vecB_le v
  haveI : ∀ c k : Nat, OC Tryz.prog 170 [.a (v8L v)] [] [(c, k)] True (.o (.osl c (k + 8) 1 0 (vecB v).length)) [(c, (k + 9, some (.buf 5 1 ((vecB v).map bR))))] := fun c k => by rw [← vV8 h8]; exact refVec_i hv
  haveI : PC Tryz.prog 97 [.p (.k .u64 (l.length : Int))] True (.p (.sl 1 ((numB l.length).map bR) false)) := ⟨fun _ => refNum_w l.length (by omega)⟩
  have hnl := numB_le l.length
  unfold cartB
  dsimp only
  generalize numB l.length = N at *
  generalize vecB v = V at *
  open W7 in
  repeat' (first | refine rnC ?_ | refine rnSB ?_ | refine rnG ?_ | refine rnU ?_ | ((fail_if_success (refine rnKn ?_)); refine rnP ?_ ?_ <;> (intro hq; try (have hq' := hq; simp only [hqs] at hq'))) | refine rkC ?_ | refine rkSB ?_ | refine rkF ?_ | refine rkU ?_ | ((fail_if_success (refine rkKn ?_)); refine rkP ?_ ?_ <;> (intro hq; try (have hq' := hq; simp only [hqs] at hq'))) | refine stp ?_ | refine ifT ?_ | refine ifF ?_ | (refine ifQ ?_ ?_ <;> (try (intro hn))) | (refine ifB ?_ ?_ <;> (intro hq; try (have hq' := hq; simp only [hqs] at hq'))))
  refine aws_draws [(2, 8), (8, 8)] mixed (by kernel_rfl) ?_
  open W7 in
  repeat' (first | refine rnC ?_ | refine rnSB ?_ | refine rnG ?_ | refine rnU ?_ | ((fail_if_success (refine rnKn ?_)); refine rnP ?_ ?_ <;> (intro hq; try (have hq' := hq; simp only [hqs] at hq'))) | refine rkC ?_ | refine rkSB ?_ | refine rkF ?_ | refine rkU ?_ | ((fail_if_success (refine rkKn ?_)); refine rkP ?_ ?_ <;> (intro hq; try (have hq' := hq; simp only [hqs] at hq'))) | refine stp ?_ | refine aws_draws [] mixed (by kernel_rfl) ?_ | refine ifT ?_ | refine ifF ?_ | (refine ifQ ?_ ?_ <;> (try (intro hn))) | (refine ifB ?_ ?_ <;> (intro hq; try (have hq' := hq; simp only [hqs] at hq'))))
  refine aws_loopS [3, 4, 5, 15, 16, 17, 18, 19, 20, 21, 22, 23, 24, 25, 26, 27, 28, 29, 30, 31, 32, 33, 34, 35, 36, 37, 38, 39, 40, 41, 42, 43, 44, 45, 46] [8, 5] (fun (x : Nat × Nat × List Nat × Option MO) => [(4, .p (.i x.1)), (3, .o (.osl 8 x.2.1 1 0 x.2.2.1.length))]) (fun x => [(8, (x.2.1 + 1, some (.buf 5 1 (x.2.2.1.map bR)))), (5, (x.1, x.2.2.2))]) (fun x => x.1 ≤ l.length ∧ x.2.2.1 = (V ++ N) ++ (l.take x.1).flatMap entB) (fun x => l.length - x.1) (0, 9, V ++ N, none) ⟨Nat.zero_le _, (List.append_nil _).symm⟩ (by exact knA) (by exact knA) ?_
  rintro ⟨i, g, out, m5⟩ β γ ⟨hi, ho⟩
  dsimp only at hi ho ⊢
  have hol : out.length ≤ 20000 := by
    have := entsB_le (l.take i)
    rw [ho]
    simp only [List.length_append]
    rw [List.length_take] at this
    omega
  by_cases hil : i < l.length
  · have d1 : decide ((i : Int) < (l.length : Int)) = true := decide_eq_true (by omega)
    have hs := entB_take hil
    rw [show l.getD i default = l.getD (i : Int).toNat default by rw [Int.toNat_natCast]] at hs
    have hok : entOk (l.getD (i : Int).toNat default) := he _ (by rw [Int.toNat_natCast, List.getD_eq_getElem?_getD, List.getElem?_eq_getElem hil]; exact List.getElem_mem _)
    obtain ⟨k1, k2, k3, k4⟩ := hok
    have w1 : IntKind.u64.wrap (l.getD (i : Int).toNat default).1 = (l.getD (i : Int).toNat default).1 := u64_in (by omega)
    have w2 : IntKind.u64.wrap (l.getD (i : Int).toNat default).2.1 = (l.getD (i : Int).toNat default).2.1 := u64_in (by omega)
    haveI n1 := refNumI (l.getD (i : Int).toNat default).1 (by omega)
    haveI n2 := refNumI (l.getD (i : Int).toNat default).2.1 (by omega)
    haveI n3 := refNumI (l.getD (i : Int).toNat default).2.2.1 k3
    haveI n4 : PC Tryz.prog 171 [.p (.i (l.getD (i : Int).toNat default).2.2.2)] True (.p (.sl 1 ((intB (l.getD (i : Int).toNat default).2.2.2).map bR) false)) := ⟨fun _ => refInt_w _ (by omega)⟩
    have q1 : (numI (l.getD (i : Int).toNat default).1).length ≤ 9 := numB_le _
    have q2 : (numI (l.getD (i : Int).toNat default).2.1).length ≤ 9 := numB_le _
    have q3 : (numI (l.getD (i : Int).toNat default).2.2.1).length ≤ 9 := numB_le _
    have q4 : (intB (l.getD (i : Int).toNat default).2.2.2).length ≤ 9 := numB_le _
    rw [show entB (l.getD (i : Int).toNat default) = numI (l.getD (i : Int).toNat default).1 ++ (numI (l.getD (i : Int).toNat default).2.1 ++ (numI (l.getD (i : Int).toNat default).2.2.1 ++ intB (l.getD (i : Int).toNat default).2.2.2)) from rfl] at hs
    generalize numI (l.getD (i : Int).toNat default).1 = N1 at *
    generalize numI (l.getD (i : Int).toNat default).2.1 = N2 at *
    generalize numI (l.getD (i : Int).toNat default).2.2.1 = N3 at *
    generalize intB (l.getD (i : Int).toNat default).2.2.2 = N4 at *
    open W7 in
    repeat' (first | refine rnC ?_ | refine rnSB ?_ | refine rnG ?_ | refine rnU ?_ | ((fail_if_success (refine rnKn ?_)); refine rnP ?_ ?_ <;> (intro hq; try (have hq' := hq; simp only [hqs] at hq'))) | refine rkC ?_ | refine rkSB ?_ | refine rkF ?_ | refine rkU ?_ | ((fail_if_success (refine rkKn ?_)); refine rkP ?_ ?_ <;> (intro hq; try (have hq' := hq; simp only [hqs] at hq'))) | refine stp ?_ | refine ifT ?_ | refine ifF ?_ | (refine ifQ ?_ ?_ <;> (try (intro hn))) | (refine ifB ?_ ?_ <;> (intro hq; try (have hq' := hq; simp only [hqs] at hq'))))
    refine aws_draws [(5, 8), (10, 8)] mixed (by kernel_rfl) ?_
    open W7 in
    repeat' (first | refine rk_nil ?_ | refine rkC ?_ | refine rkSB ?_ | refine rkF ?_ | refine rkU ?_ | ((fail_if_success (refine rkKn ?_)); refine rkP ?_ ?_ <;> (intro hq; try (have hq' := hq; simp only [hqs] at hq'))))
    open W7 in
    repeat' (first | refine rnC ?_ | refine rnSB ?_ | refine rnG ?_ | refine rnU ?_ | ((fail_if_success (refine rnKn ?_)); refine rnP ?_ ?_ <;> (intro hq; try (have hq' := hq; simp only [hqs] at hq'))) | refine rkC ?_ | refine rkSB ?_ | refine rkF ?_ | refine rkU ?_ | ((fail_if_success (refine rkKn ?_)); refine rkP ?_ ?_ <;> (intro hq; try (have hq' := hq; simp only [hqs] at hq'))) | refine stp ?_ | refine ifT ?_ | refine ifF ?_ | (refine ifQ ?_ ?_ <;> (try (intro hn))) | (refine ifB ?_ ?_ <;> (intro hq; try (have hq' := hq; simp only [hqs] at hq'))))
    refine aws_draws [(4, 8), (8, 8)] mixed (by kernel_rfl) ?_
    open W7 in
    repeat' (first | refine rk_nil ?_ | refine rkC ?_ | refine rkSB ?_ | refine rkF ?_ | refine rkU ?_ | ((fail_if_success (refine rkKn ?_)); refine rkP ?_ ?_ <;> (intro hq; try (have hq' := hq; simp only [hqs] at hq'))))
    open W7 in
    as_aux_lemma =>
      repeat' (first | refine rnC ?_ | refine rnSB ?_ | refine rnG ?_ | refine rnU ?_ | ((fail_if_success (refine rnKn ?_)); refine rnP ?_ ?_ <;> (intro hq; try (have hq' := hq; simp only [hqs] at hq'))) | refine rkC ?_ | refine rkSB ?_ | refine rkF ?_ | refine rkU ?_ | ((fail_if_success (refine rkKn ?_)); refine rkP ?_ ?_ <;> (intro hq; try (have hq' := hq; simp only [hqs] at hq'))) | refine stp ?_ | refine ifT ?_ | refine ifF ?_ | (refine ifQ ?_ ?_ <;> (try (intro hn))) | (refine ifB ?_ ?_ <;> (intro hq; try (have hq' := hq; simp only [hqs] at hq'))))
      refine ⟨(i + 1, g + 4, out ++ N1 ++ N2 ++ N3 ++ N4, _), _, by dsimp only; omega, ⟨by dsimp only; omega, ?_⟩, .refl, by exact frA⟩
      dsimp only
      rw [hs, ho]
      simp only [List.append_assoc]
  · have d1 : decide ((i : Int) < (l.length : Int)) = false := decide_eq_false (by omega)
    obtain rfl : i = l.length := by omega
    rw [List.take_length, List.append_assoc] at ho
    rw [← ho]
    clear ho
    open W7 in
    as_aux_lemma =>
      repeat' (first | refine rnC ?_ | refine rnSB ?_ | refine rnG ?_ | refine rnU ?_ | ((fail_if_success (refine rnKn ?_)); refine rnP ?_ ?_ <;> (intro hq; try (have hq' := hq; simp only [hqs] at hq'))) | refine rkC ?_ | refine rkSB ?_ | refine rkF ?_ | refine rkU ?_ | ((fail_if_success (refine rkKn ?_)); refine rkP ?_ ?_ <;> (intro hq; try (have hq' := hq; simp only [hqs] at hq'))) | refine stp ?_ | refine ifT ?_ | refine ifF ?_ | (refine ifQ ?_ ?_ <;> (try (intro hn))) | (refine ifB ?_ ?_ <;> (intro hq; try (have hq' := hq; simp only [hqs] at hq'))))
      exact rt1 rfl rfl (.one (finC_map rfl rfl rfl rfl)) rfl
end Go.Proofs.YtlaeldgebecppaaGreat.Wi
