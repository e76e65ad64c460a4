/- the reference's writers: carts and lists; the reference's writers: lists -/
import Derived.Test.YtlaeldgebecppaaGreatPT33
import Derived.Test.YtlaeldgebecppaaGreatPT19
namespace Go.Proofs.YtlaeldgebecppaaGreat.Wi
open Go Go.RowKit Go.Aw Go.Aw.Cart Go.Proofs.YtlaeldgebecppaaGreat.Ca
set_option linter.unusedVariables false
set_option linter.unusedSimpArgs false
set_option maxRecDepth 8000
set_option maxHeartbeats 4000000
theorem ren_vVF (q c n : Nat) (v : List Int) : AV.ren (rnF q c n) (vV v) = vV v := by
  show AV.a ((v.map _).map _) = _
  rw [List.map_map]; rfl
theorem refVec_i {c k : Nat} {v : List Int} (hv : vecOk v) : OC Tryz.prog 170 [vV v] [] [(c, k)] True (.o (.osl c (k + 8) 1 0 (vecB v).length)) [(c, (k + 9, some (.buf 5 1 ((vecB v).map bR))))] := ⟨fun _ => by have := (refVec_o v hv).fresh1 c k; rw [List.map_cons, List.map_nil, ren_vVF] at this; exact this⟩
theorem refNumI (n : Int) (h : 0 ≤ n ∧ n < 18446744073709551616) : PC Tryz.prog 97 [.p (.k .u64 n)] True (.p (.sl 1 ((numI n).map bR) false)) := ⟨fun _ => by
  have cN := refNum_w n.toNat (by omega)
  rw [Int.toNat_of_nonneg h.1] at cN
  exact cN⟩
theorem entB_take {l : List Ent} {i : Nat} (h : i < l.length) : (l.take (i + 1)).flatMap entB = (l.take i).flatMap entB ++ entB (l.getD i default) := by
  rw [List.take_succ_eq_append_getElem h, List.flatMap_append, List.getD_eq_getElem?_getD, List.getElem?_eq_getElem h]
  simp
theorem entB_le (e : Ent) : (entB e).length ≤ 36 := by
  unfold entB
  simp only [List.length_append]
  have h1 : (numI e.1).length ≤ 9 := numB_le _
  have h2 : (numI e.2.1).length ≤ 9 := numB_le _
  have h3 : (numI e.2.2.1).length ≤ 9 := numB_le _
  have h4 : (intB e.2.2.2).length ≤ 9 := numB_le _
  omega
theorem entsB_le (l : List Ent) : (l.flatMap entB).length ≤ 36 * l.length := by
  induction l with
  | nil => exact Nat.le_refl _
  | cons a l ih =>
    rw [List.flatMap_cons, List.length_append, List.length_cons]
    have := entB_le a
    omega
theorem refWrite_w (v : List Int) (l : List Ent) (ex : Bool) (hv : vecOk v) (hl : l.length ≤ 400) (he : ∀ e ∈ l, entOk e) : PCall Tryz.prog 99 [cV v l ex] (.p (.sl 1 ((cartB (v, l)).map bR) false)) := by
  refine pcall_of Tryz.func99 rfl (fun w0 F S0 M0 => ?_)
  have hw : IntKind.u64.wrap (l.length : Int) = (l.length : Int) := u64_in (by omega)
  have h8 := hv.1
  have hvl := vecB_le v
  haveI : ∀ c k : Nat, OC Tryz.prog 170 [.a (v8L v)] [] [(c, k)] True (.o (.osl c (k + 8) 1 0 (vecB v).length)) [(c, (k + 9, some (.buf 5 1 ((vecB v).map bR))))] := fun c k => by rw [← vV8 h8]; exact refVec_i hv
  haveI : PC Tryz.prog 97 [.p (.k .u64 (l.length : Int))] True (.p (.sl 1 ((numB l.length).map bR) false)) := ⟨fun _ => refNum_w l.length (by omega)⟩
  have hnl := numB_le l.length
  unfold cartB
  dsimp only
  generalize numB l.length = N at *
  generalize vecB v = V at *
  open W7 in
  repeat' (first | refine rnC ?_ | refine rnSB ?_ | refine rnG ?_ | refine rnU ?_ | ((fail_if_success (refine rnKn ?_)); refine rnP ?_ ?_ <;> (intro hq; try (have hq' := hq; simp only [hqs] at hq'))) | refine rkC ?_ | refine rkSB ?_ | refine rkF ?_ | refine rkU ?_ | ((fail_if_success (refine rkKn ?_)); refine rkP ?_ ?_ <;> (intro hq; try (have hq' := hq; simp only [hqs] at hq'))) | refine stp ?_ | refine ifT ?_ | refine ifF ?_ | (refine ifQ ?_ ?_ <;> (try (intro hn))) | (refine ifB ?_ ?_ <;> (intro hq; try (have hq' := hq; simp only [hqs] at hq'))))
  refine aws_draws [(2, 8), (8, 8)] mixed (by kernel_rfl) ?_
  open W7 in
  repeat' (first | refine rnC ?_ | refine rnSB ?_ | refine rnG ?_ | refine rnU ?_ | ((fail_if_success (refine rnKn ?_)); refine rnP ?_ ?_ <;> (intro hq; try (have hq' := hq; simp only [hqs] at hq'))) | refine rkC ?_ | refine rkSB ?_ | refine rkF ?_ | refine rkU ?_ | ((fail_if_success (refine rkKn ?_)); refine rkP ?_ ?_ <;> (intro hq; try (have hq' := hq; simp only [hqs] at hq'))) | refine stp ?_ | refine aws_draws [] mixed (by kernel_rfl) ?_ | refine ifT ?_ | refine ifF ?_ | (refine ifQ ?_ ?_ <;> (try (intro hn))) | (refine ifB ?_ ?_ <;> (intro hq; try (have hq' := hq; simp only [hqs] at hq'))))
  refine aws_loopS [3, 4, 5, 15, 16, 17, 18, 19, 20, 21, 22, 23, 24, 25, 26, 27, 28, 29, 30, 31, 32, 33, 34, 35, 36, 37, 38, 39, 40, 41, 42, 43, 44, 45, 46] [8, 5] (fun (x : Nat × Nat × List Nat × Option MO) => [(4, .p (.i x.1)), (3, .o (.osl 8 x.2.1 1 0 x.2.2.1.length))]) (fun x => [(8, (x.2.1 + 1, some (.buf 5 1 (x.2.2.1.map bR)))), (5, (x.1, x.2.2.2))]) (fun x => x.1 ≤ l.length ∧ x.2.2.1 = (V ++ N) ++ (l.take x.1).flatMap entB) (fun x => l.length - x.1) (0, 9, V ++ N, none) ⟨Nat.zero_le _, (List.append_nil _).symm⟩ (by exact knA) (by exact knA) ?_
  rintro ⟨i, g, out, m5⟩ β γ ⟨hi, ho⟩
  dsimp only at hi ho ⊢
  have hol : out.length ≤ 20000 := by
    have := entsB_le (l.take i)
    rw [ho]
    simp only [List.length_append]
    rw [List.length_take] at this
    omega
  by_cases hil : i < l.length
  · have d1 : decide ((i : Int) < (l.length : Int)) = true := decide_eq_true (by omega)
    have hs := entB_take hil
    rw [show l.getD i default = l.getD (i : Int).toNat default by rw [Int.toNat_natCast]] at hs
    have hok : entOk (l.getD (i : Int).toNat default) := he _ (by rw [Int.toNat_natCast, List.getD_eq_getElem?_getD, List.getElem?_eq_getElem hil]; exact List.getElem_mem _)
    obtain ⟨k1, k2, k3, k4⟩ := hok
    have w1 : IntKind.u64.wrap (l.getD (i : Int).toNat default).1 = (l.getD (i : Int).toNat default).1 := u64_in (by omega)
    have w2 : IntKind.u64.wrap (l.getD (i : Int).toNat default).2.1 = (l.getD (i : Int).toNat default).2.1 := u64_in (by omega)
    haveI n1 := refNumI (l.getD (i : Int).toNat default).1 (by omega)
    haveI n2 := refNumI (l.getD (i : Int).toNat default).2.1 (by omega)
    haveI n3 := refNumI (l.getD (i : Int).toNat default).2.2.1 k3
    haveI n4 : PC Tryz.prog 171 [.p (.i (l.getD (i : Int).toNat default).2.2.2)] True (.p (.sl 1 ((intB (l.getD (i : Int).toNat default).2.2.2).map bR) false)) := ⟨fun _ => refInt_w _ (by omega)⟩
    have q1 : (numI (l.getD (i : Int).toNat default).1).length ≤ 9 := numB_le _
    have q2 : (numI (l.getD (i : Int).toNat default).2.1).length ≤ 9 := numB_le _
    have q3 : (numI (l.getD (i : Int).toNat default).2.2.1).length ≤ 9 := numB_le _
    have q4 : (intB (l.getD (i : Int).toNat default).2.2.2).length ≤ 9 := numB_le _
    rw [show entB (l.getD (i : Int).toNat default) = numI (l.getD (i : Int).toNat default).1 ++ (numI (l.getD (i : Int).toNat default).2.1 ++ (numI (l.getD (i : Int).toNat default).2.2.1 ++ intB (l.getD (i : Int).toNat default).2.2.2)) from rfl] at hs
    generalize numI (l.getD (i : Int).toNat default).1 = N1 at *
    generalize numI (l.getD (i : Int).toNat default).2.1 = N2 at *
    generalize numI (l.getD (i : Int).toNat default).2.2.1 = N3 at *
    generalize intB (l.getD (i : Int).toNat default).2.2.2 = N4 at *
    open W7 in
    repeat' (first | refine rnC ?_ | refine rnSB ?_ | refine rnG ?_ | refine rnU ?_ | ((fail_if_success (refine rnKn ?_)); refine rnP ?_ ?_ <;> (intro hq; try (have hq' := hq; simp only [hqs] at hq'))) | refine rkC ?_ | refine rkSB ?_ | refine rkF ?_ | refine rkU ?_ | ((fail_if_success (refine rkKn ?_)); refine rkP ?_ ?_ <;> (intro hq; try (have hq' := hq; simp only [hqs] at hq'))) | refine stp ?_ | refine ifT ?_ | refine ifF ?_ | (refine ifQ ?_ ?_ <;> (try (intro hn))) | (refine ifB ?_ ?_ <;> (intro hq; try (have hq' := hq; simp only [hqs] at hq'))))
    refine aws_draws [(5, 8), (10, 8)] mixed (by kernel_rfl) ?_
    open W7 in
    repeat' (first | refine rk_nil ?_ | refine rkC ?_ | refine rkSB ?_ | refine rkF ?_ | refine rkU ?_ | ((fail_if_success (refine rkKn ?_)); refine rkP ?_ ?_ <;> (intro hq; try (have hq' := hq; simp only [hqs] at hq'))))
    open W7 in
    repeat' (first | refine rnC ?_ | refine rnSB ?_ | refine rnG ?_ | refine rnU ?_ | ((fail_if_success (refine rnKn ?_)); refine rnP ?_ ?_ <;> (intro hq; try (have hq' := hq; simp only [hqs] at hq'))) | refine rkC ?_ | refine rkSB ?_ | refine rkF ?_ | refine rkU ?_ | ((fail_if_success (refine rkKn ?_)); refine rkP ?_ ?_ <;> (intro hq; try (have hq' := hq; simp only [hqs] at hq'))) | refine stp ?_ | refine ifT ?_ | refine ifF ?_ | (refine ifQ ?_ ?_ <;> (try (intro hn))) | (refine ifB ?_ ?_ <;> (intro hq; try (have hq' := hq; simp only [hqs] at hq'))))
    refine aws_draws [(4, 8), (8, 8)] mixed (by kernel_rfl) ?_
    open W7 in
    repeat' (first | refine rk_nil ?_ | refine rkC ?_ | refine rkSB ?_ | refine rkF ?_ | refine rkU ?_ | ((fail_if_success (refine rkKn ?_)); refine rkP ?_ ?_ <;> (intro hq; try (have hq' := hq; simp only [hqs] at hq'))))
    open W7 in
    as_aux_lemma =>
      repeat' (first | refine rnC ?_ | refine rnSB ?_ | refine rnG ?_ | refine rnU ?_ | ((fail_if_success (refine rnKn ?_)); refine rnP ?_ ?_ <;> (intro hq; try (have hq' := hq; simp only [hqs] at hq'))) | refine rkC ?_ | refine rkSB ?_ | refine rkF ?_ | refine rkU ?_ | ((fail_if_success (refine rkKn ?_)); refine rkP ?_ ?_ <;> (intro hq; try (have hq' := hq; simp only [hqs] at hq'))) | refine stp ?_ | refine ifT ?_ | refine ifF ?_ | (refine ifQ ?_ ?_ <;> (try (intro hn))) | (refine ifB ?_ ?_ <;> (intro hq; try (have hq' := hq; simp only [hqs] at hq'))))
      refine ⟨(i + 1, g + 4, out ++ N1 ++ N2 ++ N3 ++ N4, _), _, by dsimp only; omega, ⟨by dsimp only; omega, ?_⟩, .refl, by exact frA⟩
      dsimp only
      rw [hs, ho]
      simp only [List.append_assoc]
  · have d1 : decide ((i : Int) < (l.length : Int)) = false := decide_eq_false (by omega)
    obtain rfl : i = l.length := by omega
    rw [List.take_length, List.append_assoc] at ho
    rw [← ho]
    clear ho
    open W7 in
    as_aux_lemma =>
      repeat' (first | refine rnC ?_ | refine rnSB ?_ | refine rnG ?_ | refine rnU ?_ | ((fail_if_success (refine rnKn ?_)); refine rnP ?_ ?_ <;> (intro hq; try (have hq' := hq; simp only [hqs] at hq'))) | refine rkC ?_ | refine rkSB ?_ | refine rkF ?_ | refine rkU ?_ | ((fail_if_success (refine rkKn ?_)); refine rkP ?_ ?_ <;> (intro hq; try (have hq' := hq; simp only [hqs] at hq'))) | refine stp ?_ | refine ifT ?_ | refine ifF ?_ | (refine ifQ ?_ ?_ <;> (try (intro hn))) | (refine ifB ?_ ?_ <;> (intro hq; try (have hq' := hq; simp only [hqs] at hq'))))
      exact rt1 rfl rfl (.one (finC_map rfl rfl rfl rfl)) rfl
end Go.Proofs.YtlaeldgebecppaaGreat.Wi
namespace Go.Proofs.YtlaeldgebecppaaGreat.Wi
open Go Go.RowKit Go.Aw Go.Aw.Cart Go.Proofs.YtlaeldgebecppaaGreat.Ca
set_option linter.unusedVariables false
set_option linter.unusedSimpArgs false
set_option maxRecDepth 8000
set_option maxHeartbeats 4000000
/-- a keyed cart that can be written -/
structure KdW (k : Kd) : Prop where
  key : okB k.1
  len : k.1.length ≤ 20
  vec : vecOk k.2.1
  few : k.2.2.length ≤ 400
  ent : ∀ e ∈ k.2.2, entOk e
theorem textB_le (b : List Nat) : (textB b).length ≤ b.length + 9 := by
  unfold textB
  rw [List.length_append]
  have := numB_le b.length
  omega
theorem cartB_le (c : Crt) : (cartB c).length ≤ 9 * c.1.length + 9 + 36 * c.2.length := by
  unfold cartB
  simp only [List.length_append]
  have h1 := vecB_le c.1
  have h2 := numB_le c.2.length
  have h3 := entsB_le c.2
  omega
theorem kdB_take {l : List Kd} {i : Nat} (h : i < l.length) : (l.take (i + 1)).flatMap kdB = (l.take i).flatMap kdB ++ kdB (l.getD i default) := flat_take kdB h
theorem kdW_le {k : Kd} (h : KdW k) : (kdB k).length ≤ 20000 := by
  unfold kdB
  rw [List.length_append]
  have h1 := textB_le k.1
  have h2 := cartB_le k.2
  have h3 := h.vec.1
  have h4 := h.few
  have h5 := h.len
  omega
theorem kdsW_le : ∀ {l : List Kd}, (∀ k ∈ l, KdW k) → (l.flatMap kdB).length ≤ 20000 * l.length
  | [], _ => Nat.le_refl _
  | k :: l, h => by
    rw [List.flatMap_cons, List.length_append, List.length_cons]
    have h1 := kdW_le (h k List.mem_cons_self)
    have h2 := kdsW_le fun e he => h e (List.mem_cons_of_mem _ he)
    omega
theorem refWriteAll_w (l : List Kd) (ex : Bool) (hl : l.length ≤ 2000) (hk : ∀ k ∈ l, KdW k) : PCall Tryz.prog 33 [.p (.sl 10 (l.map kR) ex)] (.p (.sl 1 ((listB l).map bR) false)) := by
  refine pcall_of Tryz.func33 rfl (fun w0 F S0 M0 => ?_)
  have hw : IntKind.u64.wrap (l.length : Int) = (l.length : Int) := u64_in (by omega)
  haveI : ∀ c k : Nat, OC Tryz.prog 97 [.p (.k .u64 (l.length : Int))] [] [(c, k)] True (.o (.osl c (k + 1) 1 0 (numB l.length).length)) [(c, (k + 2, some (.buf 5 1 ((numB l.length).map bR))))] := fun c k => ⟨fun _ => (refNum_o l.length (by omega)).fresh1 c k⟩
  have hnl := numB_le l.length
  unfold listB
  generalize numB l.length = N at *
  open W9 in
  repeat' (first | refine rnC ?_ | refine rnSB ?_ | refine rnG ?_ | refine rnU ?_ | ((fail_if_success (refine rnKn ?_)); refine rnP ?_ ?_ <;> (intro hq; try (have hq' := hq; simp only [hqs] at hq'))) | refine rkC ?_ | refine rkSB ?_ | refine rkF ?_ | refine rkU ?_ | ((fail_if_success (refine rkKn ?_)); refine rkP ?_ ?_ <;> (intro hq; try (have hq' := hq; simp only [hqs] at hq'))) | refine stp ?_ | refine ifT ?_ | refine ifF ?_ | (refine ifQ ?_ ?_ <;> (try (intro hn))) | (refine ifB ?_ ?_ <;> (intro hq; try (have hq' := hq; simp only [hqs] at hq'))))
  refine aws_loopS [3, 4, 9, 10, 11, 12, 13, 14, 15, 16, 17, 18, 19, 20, 21, 22, 23, 24, 25, 26, 27, 28, 29, 30] [8] (fun (x : Nat × Nat × List Nat) => [(4, .p (.i x.1)), (3, .o (.osl 8 x.2.1 1 0 x.2.2.length))]) (fun x => [(8, (x.2.1 + 1, some (.buf 5 1 (x.2.2.map bR))))]) (fun x => x.1 ≤ l.length ∧ x.2.2 = N ++ (l.take x.1).flatMap kdB) (fun x => l.length - x.1) (0, 1, N) ⟨Nat.zero_le _, (List.append_nil _).symm⟩ (by exact knA) (by exact knA) ?_
  rintro ⟨i, g, out⟩ β γ ⟨hi, ho⟩
  dsimp only at hi ho ⊢
  have hol : out.length ≤ 50000000 := by
    have := kdsW_le (l := l.take i) fun k h => hk k (List.mem_of_mem_take h)
    rw [ho, List.length_append]
    rw [List.length_take] at this
    omega
  by_cases hil : i < l.length
  · have d1 : decide ((i : Int) < (l.length : Int)) = true := decide_eq_true (by omega)
    have hs := kdB_take hil
    rw [show l.getD i default = l.getD (i : Int).toNat default by rw [Int.toNat_natCast]] at hs
    have hW : KdW (l.getD (i : Int).toNat default) := hk _ (by rw [Int.toNat_natCast, List.getD_eq_getElem?_getD, List.getElem?_eq_getElem hil]; exact List.getElem_mem _)
    have okk := hW.key
    have l20 := hW.len
    haveI n1 : PC Tryz.prog 98 [.p (.sl 1 ((l.getD (i : Int).toNat default).1.map bR) false)] True (.p (.sl 1 ((textB (l.getD (i : Int).toNat default).1).map bR) false)) := ⟨fun _ => refText_w _ (by omega)⟩
    haveI n2 : PC Tryz.prog 99 [cV (l.getD (i : Int).toNat default).2.1 (l.getD (i : Int).toNat default).2.2 false] True (.p (.sl 1 ((cartB ((l.getD (i : Int).toNat default).2.1, (l.getD (i : Int).toNat default).2.2)).map bR) false)) := ⟨fun _ => refWrite_w _ _ false hW.vec hW.few hW.ent⟩
    have q1 := textB_le (l.getD (i : Int).toNat default).1
    have q2 := cartB_le ((l.getD (i : Int).toNat default).2.1, (l.getD (i : Int).toNat default).2.2)
    have q3 := hW.vec.1
    have q4 := hW.few
    dsimp only at q2
    rw [show kdB (l.getD (i : Int).toNat default) = textB (l.getD (i : Int).toNat default).1 ++ cartB ((l.getD (i : Int).toNat default).2.1, (l.getD (i : Int).toNat default).2.2) from rfl] at hs
    generalize textB (l.getD (i : Int).toNat default).1 = N1 at *
    generalize cartB ((l.getD (i : Int).toNat default).2.1, (l.getD (i : Int).toNat default).2.2) = N2 at *
    clear hW
    open W9 in
    repeat' (first | refine rnC ?_ | refine rnSB ?_ | refine rnG ?_ | refine rnU ?_ | ((fail_if_success (refine rnKn ?_)); refine rnP ?_ ?_ <;> (intro hq; try (have hq' := hq; simp only [hqs] at hq'))) | refine rkC ?_ | refine rkSB ?_ | refine rkF ?_ | refine rkU ?_ | ((fail_if_success (refine rkKn ?_)); refine rkP ?_ ?_ <;> (intro hq; try (have hq' := hq; simp only [hqs] at hq'))) | refine stp ?_ | refine ifT ?_ | refine ifF ?_ | (refine ifQ ?_ ?_ <;> (try (intro hn))) | (refine ifB ?_ ?_ <;> (intro hq; try (have hq' := hq; simp only [hqs] at hq'))))
    refine aws_draws [(8, 8), (15, 8)] mixed (by kernel_rfl) ?_
    open W9 in
    repeat' (first | refine rk_nil ?_ | refine rkC ?_ | refine rkSB ?_ | refine rkF ?_ | refine rkU ?_ | ((fail_if_success (refine rkKn ?_)); refine rkP ?_ ?_ <;> (intro hq; try (have hq' := hq; simp only [hqs] at hq'))))
    open W9 in
    as_aux_lemma =>
      repeat' (first | refine rnC ?_ | refine rnSB ?_ | refine rnG ?_ | refine rnU ?_ | ((fail_if_success (refine rnKn ?_)); refine rnP ?_ ?_ <;> (intro hq; try (have hq' := hq; simp only [hqs] at hq'))) | refine rkC ?_ | refine rkSB ?_ | refine rkF ?_ | refine rkU ?_ | ((fail_if_success (refine rkKn ?_)); refine rkP ?_ ?_ <;> (intro hq; try (have hq' := hq; simp only [hqs] at hq'))) | refine stp ?_ | refine ifT ?_ | refine ifF ?_ | (refine ifQ ?_ ?_ <;> (try (intro hn))) | (refine ifB ?_ ?_ <;> (intro hq; try (have hq' := hq; simp only [hqs] at hq'))))
      refine ⟨(i + 1, g + 2, out ++ N1 ++ N2), _, by dsimp only; omega, ⟨by dsimp only; omega, ?_⟩, .refl, by exact frA⟩
      dsimp only
      rw [hs, ho]
      simp only [List.append_assoc]
  · have d1 : decide ((i : Int) < (l.length : Int)) = false := decide_eq_false (by omega)
    obtain rfl : i = l.length := by omega
    rw [List.take_length] at ho
    rw [← ho]
    clear ho
    open W9 in
    as_aux_lemma =>
      repeat' (first | refine rnC ?_ | refine rnSB ?_ | refine rnG ?_ | refine rnU ?_ | ((fail_if_success (refine rnKn ?_)); refine rnP ?_ ?_ <;> (intro hq; try (have hq' := hq; simp only [hqs] at hq'))) | refine rkC ?_ | refine rkSB ?_ | refine rkF ?_ | refine rkU ?_ | ((fail_if_success (refine rkKn ?_)); refine rkP ?_ ?_ <;> (intro hq; try (have hq' := hq; simp only [hqs] at hq'))) | refine stp ?_ | refine ifT ?_ | refine ifF ?_ | (refine ifQ ?_ ?_ <;> (try (intro hn))) | (refine ifB ?_ ?_ <;> (intro hq; try (have hq' := hq; simp only [hqs] at hq'))))
      exact rt1 rfl rfl (.one (finC_map rfl rfl rfl rfl)) rfl
end Go.Proofs.YtlaeldgebecppaaGreat.Wi
