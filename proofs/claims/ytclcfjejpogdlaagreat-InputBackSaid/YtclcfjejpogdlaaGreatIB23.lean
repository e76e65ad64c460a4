/- the reference's writers: whole numbers, texts, vectors; the reference's writers: carts and lists; the reference's writers: lists; the reference: texts compared; the reference's lists: which may be; packs: lists written and read; packs: a list read; the reference's reader: a list; a list as the reference's; the reference's lists: equal ones are the same; packs: a key's cart found -/
import Derived.Test.YtclcfjejpogdlaaGreatIB22
namespace Go.Proofs.YtclcfjejpogdlaaGreat.Wi
open Go Go.RowKit Go.Aw Go.Aw.Cart Go.Proofs.YtclcfjejpogdlaaGreat.Ca
set_option linter.unusedVariables false
set_option linter.unusedSimpArgs false
set_option maxRecDepth 8000
set_option maxHeartbeats 4000000
theorem numB_le (x : Nat) : (numB x).length ≤ 9 := by
  have := beF_le 8 x
  show (beF 8 x).length + 1 ≤ 9
  omega
end Go.Proofs.YtclcfjejpogdlaaGreat.Wi
namespace Go.Proofs.YtclcfjejpogdlaaGreat.Wi
open Go Go.RowKit Go.Aw Go.Aw.Cart Go.Proofs.YtclcfjejpogdlaaGreat.Ca
set_option linter.unusedVariables false
set_option linter.unusedSimpArgs false
set_option maxRecDepth 8000
set_option maxHeartbeats 4000000
end Go.Proofs.YtclcfjejpogdlaaGreat.Wi
namespace Go.Proofs.YtclcfjejpogdlaaGreat.Wi
open Go Go.RowKit Go.Aw Go.Aw.Cart Go.Proofs.YtclcfjejpogdlaaGreat.Ca
set_option linter.unusedVariables false
set_option linter.unusedSimpArgs false
set_option maxRecDepth 8000
set_option maxHeartbeats 4000000
/-- a keyed cart that can be written -/
structure KdW (k : Kd) : Prop where
  key : okB k.1
  len : k.1.length ≤ 20
  vec : vecOk k.2.1
  few : k.2.2.length ≤ 400
  ent : ∀ e ∈ k.2.2, entOk e
theorem textB_le (b : List Nat) : (textB b).length ≤ b.length + 9 := by
  unfold textB
  rw [List.length_append]
  have := numB_le b.length
  omega
end Go.Proofs.YtclcfjejpogdlaaGreat.Wi
namespace Go.Proofs.YtclcfjejpogdlaaGreat.Wi
open Go Go.RowKit Go.Aw Go.Aw.Cart Go.Proofs.YtclcfjejpogdlaaGreat.Ca
set_option linter.unusedVariables false
set_option linter.unusedSimpArgs false
set_option maxRecDepth 8000
set_option maxHeartbeats 4000000
namespace PW7
end PW7
end Go.Proofs.YtclcfjejpogdlaaGreat.Wi
namespace Go.Proofs.YtclcfjejpogdlaaGreat.Wi
open Go Go.RowKit Go.Aw Go.Aw.Cart Go.Proofs.YtclcfjejpogdlaaGreat.Ca
set_option linter.unusedVariables false
set_option linter.unusedSimpArgs false
set_option maxRecDepth 8000
set_option maxHeartbeats 4000000
open W9
end Go.Proofs.YtclcfjejpogdlaaGreat.Wi
namespace Go.Proofs.YtclcfjejpogdlaaGreat.Wi
open Go Go.RowKit Go.Aw Go.Aw.Cart Go.Proofs.YtclcfjejpogdlaaGreat.Ca
set_option linter.unusedVariables false
set_option linter.unusedSimpArgs false
set_option maxRecDepth 8000
set_option maxHeartbeats 4000000
namespace WA
theorem lopC {C : Ctx} {o : Oper} {σ : St} {e : Eff} {ro : Nat → Bool} (h : LOp C o σ e ro := by
    first | (apply lop_cv_sb; (focus rfl); (focus exact inferInstance); (focus exact inferInstance); (focus exact inferInstance); (focus rfl); (focus assumption); (focus first | (simp only [maxLen, List.length_append, List.length_cons, List.length_nil, List.length_take, List.length_drop, List.length_map]; omega) | omega); (focus rfl)) | (apply lop_cv_bs; (focus rfl); (focus exact inferInstance); (focus exact inferInstance); (focus exact inferInstance); (focus rfl); (focus rfl)) | exact W9.lopC | fail) : LOp C o σ e ro := h
section steps
variable {C : Ctx} {ops : Array Oper} {o : Oper} {rest : List Oper} {K : St → Prop} {σ : St} {e : Eff} {ro : Nat → Bool} {W : List (Nat × Nat)} {i : Nat}
theorem rnC {d : Nat} (hk : RunN C ops rest K (e.app (some d) σ)) (hg : Guard ops σ o true := by first | exact gd_n rfl rfl | exact gd_t rfl rfl rfl rfl | exact gd_t rfl rfl rfl (by assumption)) (hd : o.dst = some d := by rfl) (h : LOp C o σ e ro := by exact lopC) : RunN C ops (o :: rest) K σ := rn_any hg hd h hk
theorem rkC {d : Nat} (hk : RunK C ops W (i + 1) rest K (e.app (some d) σ)) (hg : Guard ops σ o true := by first | exact gd_n rfl rfl | exact gd_t rfl rfl rfl rfl | exact gd_t rfl rfl rfl (by assumption)) (hd' : o.dst = some d := by rfl) (hd : dOk C o.dst = true := by rfl) (h : LOp C o σ e ro := by exact lopC)
    (hro : ∀ x, ro x = true → okObj ops W i x = true := by first | exact fun _ => ro_none | exact ro_one rfl | exact ro_k1 rfl | exact ro_one (by kernel_rfl) | exact ro_k1 (by kernel_rfl) | exact ro_kIn (by decide)) (hob : ∀ p ∈ e.obj, (i, p.1) ∈ W := by first | exact ob_none | exact ob_one (by decide) | decide) : RunK C ops W i (o :: rest) K σ := rk_wr hg hd' hd h hro hob hk
end steps
end WA
open WA
theorem kdB_len {k : Kd} (h : k.1.length ≤ 20) (hv : vecOk k.2.1) (hr : rightF k.2.1 k.2.2 = true) : (kdB k).length ≤ 20029 := by
  have h1 := cartB_len hv hr
  have h2 := numI_len ((k.1.length : Nat) : Int)
  rw [numI_nat] at h2
  unfold kdB textB
  rw [List.length_append, List.length_append]
  have h3 : (cartB k.2).length ≤ 20000 := h1
  omega
theorem writeAll_ok (l : List Kd) (ex : Bool) (hk : keysF l = true) (hin : ∀ k ∈ l, KdI k) : PCall Tryz.prog 82 [.p (.sl 10 (l.map kR) ex)] (.tup [.one (.p (.sl 1 ((listB l).map bR) false)), .one (.p (.i 0))]) := by
  refine pcall_of Tryz.func82 rfl (fun w0 F S0 M0 => ?_)
  have ho := keys_iff.1 hk
  have hl := ho.few
  haveI : PC Tryz.prog 108 [.p (.sl 10 (l.map kR) ex)] True (.p (.b true)) := ⟨fun _ => by
    have := pright_w l ex (by omega) hin (fun k hm => by have := (ok_iff.1 (ho.cart k hm)).few; omega)
    rwa [hk] at this⟩
  have d0 : (!true) = false := rfl
  have b1 : l.length < 18446744073709551616 := by omega
  have hnl := numI_len (l.length : Int)
  rw [numI_nat] at hnl
  have hB : listB l = numB l.length ++ l.flatMap kdB := rfl
  rw [hB]
  repeat' (first | refine rnC ?_ | refine rnSB ?_ | refine rnG ?_ | refine rnU ?_ | ((fail_if_success (refine rnKn ?_)); refine rnP ?_ ?_ <;> (intro hq; try (have hq' := hq; simp only [hqs] at hq'))) | refine rkC ?_ | refine rkSB ?_ | refine rkF ?_ | refine rkU ?_ | ((fail_if_success (refine rkKn ?_)); refine rkP ?_ ?_ <;> (intro hq; try (have hq' := hq; simp only [hqs] at hq'))) | refine stp ?_ | refine ifT ?_ | refine ifF ?_ | (refine ifQ ?_ ?_ <;> (try (intro hn))) | (refine ifB ?_ ?_ <;> (intro hq; try (have hq' := hq; simp only [hqs] at hq'))))
  refine rn_says (says_wr (p := 11) rfl) rfl ?_
  repeat' (first | refine rnC ?_ | refine rnSB ?_ | refine rnG ?_ | refine rnU ?_ | ((fail_if_success (refine rnKn ?_)); refine rnP ?_ ?_ <;> (intro hq; try (have hq' := hq; simp only [hqs] at hq'))) | refine rkC ?_ | refine rkSB ?_ | refine rkF ?_ | refine rkU ?_ | ((fail_if_success (refine rkKn ?_)); refine rkP ?_ ?_ <;> (intro hq; try (have hq' := hq; simp only [hqs] at hq'))) | refine stp ?_ | refine ifT ?_ | refine ifF ?_ | (refine ifQ ?_ ?_ <;> (try (intro hn))) | (refine ifB ?_ ?_ <;> (intro hq; try (have hq' := hq; simp only [hqs] at hq'))))
  have e0 : ([] ++ numB l.length : List Nat) = numB l.length := rfl
  rw [e0]
  generalize numB l.length = B0 at hnl ⊢
  refine aws_loopS [6, 19, 20, 21, 22, 23, 24, 25, 26, 27, 28, 29, 30, 31, 32] [11, 6] (fun (x : Nat × List Nat × Option MO) => [(19, .p (.i x.1))]) (fun x => [(11, (1, some (.abs (wrA x.2.1)))), (6, (x.1, x.2.2))]) (fun x => x.1 ≤ l.length ∧ x.2.1 = B0 ++ (l.take x.1).flatMap kdB ∧ x.2.1.length ≤ 9 + 20029 * x.1) (fun x => l.length - x.1) (0, B0, none) ⟨Nat.zero_le _, by simp, by dsimp only; omega⟩ (by exact knA) (by exact knA) ?_
  rintro ⟨i, L, c6⟩ β γ ⟨hi, hL, hll⟩
  dsimp only at hi hL hll ⊢
  by_cases hil : i < l.length
  · have d1 : decide ((i : Int) < (l.length : Int)) = true := decide_eq_true (by omega)
    have ei : (i : Int).toNat = i := Int.toNat_natCast i
    have hm : l.getD (i : Int).toNat default ∈ l := by rw [ei, getD_at hil]; exact List.getElem_mem _
    have okx := (hin _ hm).key
    have vx := (hin _ hm).vec
    have kx := ho.key _ hm
    have rx := ho.cart _ hm
    have hkl := kdB_len kx vx rx
    have hft := flat_take kdB hil
    rw [← ei] at hft
    have kx' : (l.getD (i : Int).toNat default).1.length ≤ 1000000 := by omega
    have g1 : L.length ≤ 900000000 := by omega
    have ht : (textB (l.getD (i : Int).toNat default).1).length ≤ 29 := by
      have h2 := numI_len (((l.getD (i : Int).toNat default).1.length : Nat) : Int)
      rw [numI_nat] at h2
      unfold textB
      rw [List.length_append]; omega
    have g2 : (L ++ textB (l.getD (i : Int).toNat default).1).length ≤ 800000000 := by rw [List.length_append]; omega
    have e2 : L ++ textB (l.getD (i : Int).toNat default).1 ++ cartB ((l.getD (i : Int).toNat default).2.1, (l.getD (i : Int).toNat default).2.2) = L ++ kdB (l.getD (i : Int).toNat default) := by rw [List.append_assoc]; rfl
    have hn : L ++ textB (l.getD (i : Int).toNat default).1 ++ cartB ((l.getD (i : Int).toNat default).2.1, (l.getD (i : Int).toNat default).2.2) = B0 ++ (l.take (i + 1)).flatMap kdB := by
      rw [e2, hL]
      rw [show (i : Int).toNat = i from ei] at hft ⊢
      rw [hft, List.append_assoc]
    have g5 : (L ++ textB (l.getD (i : Int).toNat default).1 ++ cartB ((l.getD (i : Int).toNat default).2.1, (l.getD (i : Int).toNat default).2.2)).length ≤ 9 + 20029 * (i + 1) := by rw [e2, List.length_append]; omega
    clear hft hL e2 hkl hin ho kx
    as_aux_lemma =>
      repeat' (first | refine rnC ?_ | refine rnSB ?_ | refine rnG ?_ | refine rnU ?_ | ((fail_if_success (refine rnKn ?_)); refine rnP ?_ ?_ <;> (intro hq; try (have hq' := hq; simp only [hqs] at hq'))) | refine rkC ?_ | refine rkSB ?_ | refine rkF ?_ | refine rkU ?_ | ((fail_if_success (refine rkKn ?_)); refine rkP ?_ ?_ <;> (intro hq; try (have hq' := hq; simp only [hqs] at hq'))) | refine stp ?_ | refine ifT ?_ | refine ifF ?_ | (refine ifQ ?_ ?_ <;> (try (intro hn))) | (refine ifB ?_ ?_ <;> (intro hq; try (have hq' := hq; simp only [hqs] at hq'))))
      exact ⟨(i + 1, _, _), _, by dsimp only; omega, ⟨by dsimp only; omega, hn, g5⟩, .refl, by exact frA⟩
  · have d1 : decide ((i : Int) < (l.length : Int)) = false := decide_eq_false (by omega)
    rw [List.take_of_length_le (by omega)] at hL
    rw [← hL]
    clear hL hin ho
    have hl9 : L.length ≤ 1000000000 := by omega
    as_aux_lemma =>
      repeat' (first | refine rnC ?_ | refine rnSB ?_ | refine rnG ?_ | refine rnU ?_ | ((fail_if_success (refine rnKn ?_)); refine rnP ?_ ?_ <;> (intro hq; try (have hq' := hq; simp only [hqs] at hq'))) | refine rkC ?_ | refine rkSB ?_ | refine rkF ?_ | refine rkU ?_ | ((fail_if_success (refine rkKn ?_)); refine rkP ?_ ?_ <;> (intro hq; try (have hq' := hq; simp only [hqs] at hq'))) | refine stp ?_ | refine ifT ?_ | refine ifF ?_ | (refine ifQ ?_ ?_ <;> (try (intro hn))) | (refine ifB ?_ ?_ <;> (intro hq; try (have hq' := hq; simp only [hqs] at hq'))))
      exact rt2 rfl rfl finS_p rfl finS_p rfl
end Go.Proofs.YtclcfjejpogdlaaGreat.Wi
namespace Go.Proofs.YtclcfjejpogdlaaGreat.Wi
open Go Go.RowKit Go.Aw Go.Aw.Cart Go.Proofs.YtclcfjejpogdlaaGreat.Ca
set_option linter.unusedVariables false
set_option linter.unusedSimpArgs false
set_option maxRecDepth 8000
set_option maxHeartbeats 4000000
open WA
theorem allZ_fit (r : RS) (h : rdOk r) : ∀ k, ∀ x ∈ (allS numZ k r).1, 0 ≤ x ∧ x < 18446744073709551616
  | 0, x, hx => by cases hx
  | k + 1, x, hx => by
    have ih := allZ_fit r h k
    have hr := (par_all par_numZ k).rd h
    have hx' : x ∈ (allS numZ k r).1 ++ [((numS (allS numZ k r).2).1 : Int)] := hx
    rcases List.mem_append.1 hx' with q | q
    · exact ih x q
    · rw [List.mem_singleton] at q
      have := numS_fit hr.1
      rw [q]; omega
theorem vec_fit (r : RS) (h : rdOk r) (z : List Int) (hz : vecOk z) (k : Nat) (hk : k = 8) : vecOk (bindS (allS numZ k) (fun v => okS v z) r).1 := by
  have h1 := all_len numZ k r
  have h2 := allZ_fit r h k
  show vecOk (if (allS numZ k r).2.2 = 0 then (allS numZ k r).1 else z)
  split
  · exact ⟨by rw [h1, hk], h2⟩
  · exact hz
theorem zeroV_ok : vecOk zeroV := ⟨rfl, by decide⟩
theorem vecS_ok (r : RS) (h : rdOk r) : vecOk (vecS r).1 := vec_fit r h zeroV zeroV_ok 8 rfl
theorem cart_fit (r : RS) (h : rdOk r) : vecOk (cartS r).1.1 ∧ (cartS r).1.2.length ≤ 400 := by
  rw [cartS_eq]
  have hv := vecS_ok r h
  have hk := small_le (most := 400) (by decide) (vecS r).2
  have hl := many_len entS (smallS 400 (vecS r).2).2 (smallS 400 (vecS r).2).1.toNat
  generalize (vecS r).1 = V at hv ⊢
  generalize (vecS r).2 = r1 at hk hl ⊢
  generalize smallS 400 r1 = q at hk hl ⊢
  generalize manyS entS q.1.toNat q.2 = m at hl ⊢
  show vecOk (if _ then (V, m.1) else (zeroV, []) : Crt).1 ∧ (if _ then (V, m.1) else (zeroV, []) : Crt).2.length ≤ 400
  split
  · exact ⟨hv, by dsimp only; omega⟩
  · exact ⟨zeroV_ok, by simp⟩
theorem text_fit {most : Int} (hm : 0 ≤ most) (r : RS) (h : rdOk r) : okB (textS most r).1 ∧ ((textS most r).1.length : Int) ≤ most := by
  have h1 := (par_small most).rd h
  have h2 := small_le hm r
  have h3 : (takeS (smallS most r).1.toNat (smallS most r).2).1.length ≤ (smallS most r).1.toNat := take_len.1
  obtain ⟨k, hk⟩ := small_nat most r
  refine ⟨(take_byte (n := (smallS most r).1.toNat) h1.1).1, ?_⟩
  show ((takeS (smallS most r).1.toNat (smallS most r).2).1.length : Int) ≤ most
  omega
theorem kd_fit (r : RS) (h : rdOk r) : KdI (kdS r).1 ∧ (kdS r).1.2.2.length ≤ 400 := by
  have h1 := text_fit (most := 20) (by decide) r h
  have h2 := cart_fit (textS 20 r).2 ((par_text 20).rd h)
  have e : (kdS r).1 = ((textS 20 r).1, (cartS (textS 20 r).2).1) := rfl
  rw [e]
  exact ⟨⟨h1.1, by have := h1.2; dsimp only; omega, h2.1, by have := h2.2; dsimp only; omega⟩, h2.2⟩
theorem many_all {α : Type} {P : RS → α × RS} (hP : Par P) {Q : α → Prop} (h : ∀ r, rdOk r → Q (P r).1) (r : RS) (hr : rdOk r) : ∀ k, ∀ x ∈ (manyS P k r).1, Q x
  | 0, x, hx => by cases hx
  | k + 1, x, hx => by
    have ih := many_all hP h r hr k
    rw [manyS] at hx
    split at hx
    · rcases List.mem_append.1 hx with q | q
      · exact ih x q
      · rw [List.mem_singleton] at q
        rw [q]; exact h _ ((par_many hP k).rd hr)
    · exact ih x hx
theorem listS_eq (r : RS) : listS r = manyS kdS (smallS 2000 r).1.toNat (smallS 2000 r).2 := by
  simp only [listS, bindS]
theorem kdS_eq (r : RS) : kdS r = (((textS 20 r).1, (cartS (textS 20 r).2).1), (cartS (textS 20 r).2).2) := by
  simp only [kdS, bindS, pureS]
attribute [local irreducible] vecS smallS entS cartS textS kdS
theorem readAll_w (b : List Nat) (ex : Bool) (hb : okB b) (hbl : b.length ≤ 1000000000) : PCall Tryz.prog 100 [.p (.sl 1 (b.map bR) ex)] (.tup [.one (.p (.sl 10 ((readL b).1.map kR) false)), .one (.p (.i (readL b).2))]) := by
  refine pcall_of Tryz.func100 rfl (fun w0 F S0 M0 => ?_)
  have o1 : rdOk (b, 0) := ⟨hb, hbl⟩
  unfold readL
  rw [listS_eq]
  obtain ⟨k, hk⟩ := small_nat 2000 (b, 0)
  have hk2 : (k : Int) ≤ 2000 := by rw [← hk]; exact small_le (by decide) _
  obtain ⟨r2, h2⟩ : ∃ r2, (smallS 2000 (b, 0)).2 = r2 := ⟨_, rfl⟩
  have o2 : rdOk r2 := by have := (par_small 2000).rd o1; rwa [h2] at this
  haveI : ∀ p g m : Nat, OC Tryz.prog 97 [.o (.ptr p g 0), .p (.i 2000)] [(p, (m, some (rdM (b, 0))))] [] (m = g + 1) (.p (.i (k : Int))) [(p, (m, some (rdM r2)))] := fun p g m => ⟨fun h => by obtain rfl := h; have := (small_o g (b, 0) 2000 (by decide) o1.1 o1.2).one p; rwa [hk, h2] at this⟩
  rw [hk, h2, Int.toNat_natCast]
  clear hk h2
  repeat' (first | refine rnC ?_ | refine rnSB ?_ | refine rnG ?_ | refine rnU ?_ | ((fail_if_success (refine rnKn ?_)); refine rnP ?_ ?_ <;> (intro hq; try (have hq' := hq; simp only [hqs] at hq'))) | refine rkC ?_ | refine rkSB ?_ | refine rkF ?_ | refine rkU ?_ | ((fail_if_success (refine rkKn ?_)); refine rkP ?_ ?_ <;> (intro hq; try (have hq' := hq; simp only [hqs] at hq'))) | refine stp ?_ | refine ifT ?_ | refine ifF ?_ | (refine ifQ ?_ ?_ <;> (try (intro hn))) | (refine ifB ?_ ?_ <;> (intro hq; try (have hq' := hq; simp only [hqs] at hq'))))
  refine aws_says (says_nil (t := 5) (o := 901) (ty := 148) (es := 10) rfl rfl (by decide)) ?_
  refine aws_loopS [5, 10, 11, 12, 13, 14, 15, 16, 17, 18, 19, 20, 21, 22, 23, 24] [7, 901] (fun (x : Nat × Nat × List Kd × RS) => [(10, .p (.i x.1)), (5, .o (.osl 901 x.2.1 10 0 x.2.2.1.length))]) (fun x => [(7, (1, some (rdM x.2.2.2))), (901, (x.2.1 + 1, some (.buf 148 10 (x.2.2.1.map kR))))])
    (fun x => x.1 ≤ k ∧ manyS kdS x.1 r2 = (x.2.2.1, x.2.2.2)) (fun x => k - x.1) (0, 0, [], r2) ⟨Nat.zero_le _, rfl⟩ (by exact knA) (by exact knA) ?_
  rintro ⟨i, g, L, q⟩ β γ ⟨hi, hL⟩
  dsimp only at hi hL ⊢
  have hll : L.length ≤ 2000 := by have := many_len kdS r2 i; rw [hL] at this; dsimp only at this; omega
  have oq : rdOk q := by have := (par_many par_kd i).rd o2; rwa [hL] at this
  by_cases hik : i < k ∧ q.2 = 0
  · obtain ⟨hik, hq⟩ := hik
    have d1 : decide ((i : Int) < (k : Int)) = true := decide_eq_true (by omega)
    have d2 : decide (q.2 ≠ 0) = false := decide_eq_false fun h => h hq
    have hn : manyS kdS (i + 1) r2 = (L ++ [(kdS q).1], (kdS q).2) := by rw [manyS, hL, if_pos hq]
    rw [kdS_eq] at hn
    have ht := text_fit (most := 20) (by decide) q oq
    obtain ⟨k1, q1, h1⟩ := pr_ex (textS 20 q)
    have oq1 : rdOk q1 := by have := (par_text 20).rd oq; rwa [h1] at this
    obtain ⟨c1, q2, h3⟩ := pr_ex (cartS q1)
    rw [h1] at hn ht
    dsimp only at hn ht
    rw [h3] at hn
    dsimp only at hn
    obtain ⟨e, he⟩ : ∃ e : Kd, e = (k1, c1) := ⟨_, rfl⟩
    rw [← he] at hn
    have hel : e.1.length ≤ 1000 := by rw [he]; have := ht.2; dsimp only; omega
    haveI : ∀ p g m : Nat, OC Tryz.prog 134 [.o (.ptr p g 0), .p (.i 20)] [(p, (m, some (rdM q)))] [] (m = g + 1) (.p (.sl 1 (e.1.map bR) false)) [(p, (m, some (rdM q1)))] := fun p g m => ⟨fun h => by obtain rfl := h; have := (rtext_o g q 20 (by decide) oq).one p; rw [h1] at this; rw [he]; exact this⟩
    haveI : ∀ p g m : Nat, OC Tryz.prog 192 [.o (.ptr p g 0)] [(p, (m, some (rdM q1)))] [] (m = g + 1) (cV e.2.1 e.2.2 false) [(p, (m, some (rdM q2)))] := fun p g m => ⟨fun h => by obtain rfl := h; have := (ptake_o g q1 oq1).one p; rw [h3] at this; rw [he]; exact this⟩
    clear he h1 h3 ht
    repeat' (first | refine rnC ?_ | refine rnSB ?_ | refine rnG ?_ | refine rnU ?_ | ((fail_if_success (refine rnKn ?_)); refine rnP ?_ ?_ <;> (intro hq; try (have hq' := hq; simp only [hqs] at hq'))) | refine rkC ?_ | refine rkSB ?_ | refine rkF ?_ | refine rkU ?_ | ((fail_if_success (refine rkKn ?_)); refine rkP ?_ ?_ <;> (intro hq; try (have hq' := hq; simp only [hqs] at hq'))) | refine stp ?_ | refine ifT ?_ | refine ifF ?_ | (refine ifQ ?_ ?_ <;> (try (intro hn))) | (refine ifB ?_ ?_ <;> (intro hq; try (have hq' := hq; simp only [hqs] at hq'))))
    refine aws_draws [(2, 7), (5, 7), (8, 901)] mixed (by kernel_rfl) ?_
    repeat' (first | refine rk_nil ?_ | refine rkC ?_ | refine rkSB ?_ | refine rkF ?_ | refine rkU ?_ | ((fail_if_success (refine rkKn ?_)); refine rkP ?_ ?_ <;> (intro hq; try (have hq' := hq; simp only [hqs] at hq'))))
    as_aux_lemma =>
      repeat' (first | refine rnC ?_ | refine rnSB ?_ | refine rnG ?_ | refine rnU ?_ | ((fail_if_success (refine rnKn ?_)); refine rnP ?_ ?_ <;> (intro hq; try (have hq' := hq; simp only [hqs] at hq'))) | refine rkC ?_ | refine rkSB ?_ | refine rkF ?_ | refine rkU ?_ | ((fail_if_success (refine rkKn ?_)); refine rkP ?_ ?_ <;> (intro hq; try (have hq' := hq; simp only [hqs] at hq'))) | refine stp ?_ | refine ifT ?_ | refine ifF ?_ | (refine ifQ ?_ ?_ <;> (try (intro hn))) | (refine ifB ?_ ?_ <;> (intro hq; try (have hq' := hq; simp only [hqs] at hq'))))
      exact ⟨(i + 1, g + 1, L ++ [e], q2), _, by dsimp only; omega, ⟨by dsimp only; omega, hn⟩, .refl, by exact frA⟩
  · have hm : manyS kdS k r2 = (L, q) := by
      by_cases h : i < k
      · have hq : q.2 ≠ 0 := fun hq => hik ⟨h, hq⟩
        have := many_bad (P := kdS) r2 (k := i) (by rw [hL]; exact hq) (k - i)
        rw [show i + (k - i) = k by omega] at this
        rw [this, hL]
      · rw [show k = i by omega, hL]
    have hex : decide ((i : Int) < (k : Int)) = false ∨ (decide ((i : Int) < (k : Int)) = true ∧ decide (q.2 ≠ 0) = true) := by
      by_cases h : i < k
      · exact .inr ⟨decide_eq_true (by omega), decide_eq_true fun hq => hik ⟨h, hq⟩⟩
      · exact .inl (decide_eq_false (by omega))
    have hall := many_all par_kd (Q := fun e => KdI e ∧ e.2.2.length ≤ 400) kd_fit r2 o2 k
    rw [hm] at hall ⊢
    dsimp only at hall ⊢
    haveI hR : PC Tryz.prog 108 [.p (.sl 10 (L.map kR) false)] True (.p (.b (keysF L))) := ⟨fun _ => pright_w L false (by omega) (fun e he => (hall e he).1) (fun e he => by have := (hall e he).2; omega)⟩
    clear hm hL hik hall
    refine aws_says (says_frz (t := 5) (o := 901) rfl rfl rfl (by rw [List.length_map])) ?_
    generalize keysF L = B at hR ⊢
    by_cases hz : endS q = 0
    · have d4 : decide (endS q ≠ 0) = false := decide_eq_false fun h => h hz
      cases B with
      | true =>
        have d5 : (!true) = false := rfl
        rw [if_neg (show ¬ (endS q ≠ 0 ∨ true = false) from fun h => h.elim (fun h => h hz) (fun h => by cases h))]
        rcases hex with d1 | ⟨d1, d2⟩
        all_goals
          as_aux_lemma =>
            repeat' (first | refine rnC ?_ | refine rnSB ?_ | refine rnG ?_ | refine rnU ?_ | ((fail_if_success (refine rnKn ?_)); refine rnP ?_ ?_ <;> (intro hq; try (have hq' := hq; simp only [hqs] at hq'))) | refine rkC ?_ | refine rkSB ?_ | refine rkF ?_ | refine rkU ?_ | ((fail_if_success (refine rkKn ?_)); refine rkP ?_ ?_ <;> (intro hq; try (have hq' := hq; simp only [hqs] at hq'))) | refine stp ?_ | refine ifT ?_ | refine ifF ?_ | (refine ifQ ?_ ?_ <;> (try (intro hn))) | (refine ifB ?_ ?_ <;> (intro hq; try (have hq' := hq; simp only [hqs] at hq'))))
            exact rt2 rfl rfl finS_p rfl finS_p rfl
      | false =>
        have d5 : (!false) = true := rfl
        rw [if_pos (show (endS q ≠ 0 ∨ false = false) from .inr rfl)]
        rcases hex with d1 | ⟨d1, d2⟩
        all_goals
          as_aux_lemma =>
            repeat' (first | refine rnC ?_ | refine rnSB ?_ | refine rnG ?_ | refine rnU ?_ | ((fail_if_success (refine rnKn ?_)); refine rnP ?_ ?_ <;> (intro hq; try (have hq' := hq; simp only [hqs] at hq'))) | refine rkC ?_ | refine rkSB ?_ | refine rkF ?_ | refine rkU ?_ | ((fail_if_success (refine rkKn ?_)); refine rkP ?_ ?_ <;> (intro hq; try (have hq' := hq; simp only [hqs] at hq'))) | refine stp ?_ | refine ifT ?_ | refine ifF ?_ | (refine ifQ ?_ ?_ <;> (try (intro hn))) | (refine ifB ?_ ?_ <;> (intro hq; try (have hq' := hq; simp only [hqs] at hq'))))
            exact rt2 rfl rfl (.one .nil) rfl finS_p rfl
    · have d4 : decide (endS q ≠ 0) = true := decide_eq_true hz
      rw [if_pos (show (endS q ≠ 0 ∨ B = false) from .inl hz)]
      rcases hex with d1 | ⟨d1, d2⟩
      all_goals
        as_aux_lemma =>
          repeat' (first | refine rnC ?_ | refine rnSB ?_ | refine rnG ?_ | refine rnU ?_ | ((fail_if_success (refine rnKn ?_)); refine rnP ?_ ?_ <;> (intro hq; try (have hq' := hq; simp only [hqs] at hq'))) | refine rkC ?_ | refine rkSB ?_ | refine rkF ?_ | refine rkU ?_ | ((fail_if_success (refine rkKn ?_)); refine rkP ?_ ?_ <;> (intro hq; try (have hq' := hq; simp only [hqs] at hq'))) | refine stp ?_ | refine ifT ?_ | refine ifF ?_ | (refine ifQ ?_ ?_ <;> (try (intro hn))) | (refine ifB ?_ ?_ <;> (intro hq; try (have hq' := hq; simp only [hqs] at hq'))))
          exact rt2 rfl rfl (.one .nil) rfl finS_p rfl
end Go.Proofs.YtclcfjejpogdlaaGreat.Wi
namespace Go.Proofs.YtclcfjejpogdlaaGreat.Wi
open Go Go.RowKit Go.Aw Go.Aw.Cart Go.Proofs.YtclcfjejpogdlaaGreat.Ca
set_option linter.unusedVariables false
set_option linter.unusedSimpArgs false
set_option maxRecDepth 8000
set_option maxHeartbeats 4000000
open WA
attribute [local irreducible] vecS smallS entS cartS textS kdS
end Go.Proofs.YtclcfjejpogdlaaGreat.Wi
namespace Go.Proofs.YtclcfjejpogdlaaGreat.Wi
open Go Go.RowKit Go.Aw Go.Aw.Cart Go.Proofs.YtclcfjejpogdlaaGreat.Ca
set_option linter.unusedVariables false
set_option linter.unusedSimpArgs false
set_option maxRecDepth 8000
set_option maxHeartbeats 4000000
open W9
end Go.Proofs.YtclcfjejpogdlaaGreat.Wi
namespace Go.Proofs.YtclcfjejpogdlaaGreat.Wi
open Go Go.RowKit Go.Aw Go.Aw.Cart Go.Proofs.YtclcfjejpogdlaaGreat.Ca
set_option linter.unusedVariables false
set_option linter.unusedSimpArgs false
set_option maxRecDepth 8000
set_option maxHeartbeats 4000000
namespace PW9
end PW9
end Go.Proofs.YtclcfjejpogdlaaGreat.Wi
namespace Go.Proofs.YtclcfjejpogdlaaGreat.Wi
open Go Go.RowKit Go.Aw Go.Aw.Cart Go.Proofs.YtclcfjejpogdlaaGreat.Ca
set_option linter.unusedVariables false
set_option linter.unusedSimpArgs false
set_option maxRecDepth 8000
set_option maxHeartbeats 4000000
abbrev kV (k : Kd) : AV := .a (kL k)
def idxK (p : Kd → Bool) (l : List Kd) (k : Nat) : Nat → Int
  | 0 => -1
  | n + 1 => if p (l.getD k default) = true then k else idxK p l (k + 1) n
theorem idxK_found {p : Kd → Bool} {l : List Kd} : ∀ (n k : Nat), k + n = l.length → (idxK p l k n = -1 ∧ ∀ i, k ≤ i → i < l.length → p (l.getD i default) = false) ∨ ∃ i0 : Nat, idxK p l k n = i0 ∧ k ≤ i0 ∧ i0 < l.length ∧ p (l.getD i0 default) = true ∧ ∀ i, k ≤ i → i < i0 → p (l.getD i default) = false
  | 0, k, h => .inl ⟨rfl, fun i h1 h2 => by omega⟩
  | n + 1, k, h => by
    rw [idxK]
    by_cases hp : p (l.getD k default) = true
    · rw [if_pos hp]; exact .inr ⟨k, rfl, Nat.le_refl _, by omega, hp, fun i h1 h2 => by omega⟩
    · rw [if_neg hp]
      have hp' := Bool.eq_false_iff.2 hp
      rcases idxK_found (p := p) (l := l) n (k + 1) (by omega) with ⟨h1, h2⟩ | ⟨i0, h1, h2, h3, h4, h5⟩
      · refine .inl ⟨h1, fun i a b => ?_⟩
        by_cases e : i = k
        · rw [e]; exact hp'
        · exact h2 i (by omega) b
      · refine .inr ⟨i0, h1, by omega, h3, h4, fun i a b => ?_⟩
        by_cases e : i = k
        · rw [e]; exact hp'
        · exact h5 i (by omega) b
namespace WC
theorem lopC {C : Ctx} {o : Oper} {σ : St} {e : Eff} {ro : Nat → Bool} (h : LOp C o σ e ro := by
    first | (apply lop_callv1; (focus rfl); (focus rfl); (focus assumption); (focus first | exact lk_o rfl | exact lk_a rfl); (focus exact inferInstance); (focus exact inferInstance); (focus exact True.intro); (focus rfl)) | (apply gBin; (focus rfl); apply lop_eqs; (focus rfl); (focus exact inferInstance); (focus rfl); (focus rfl); (focus assumption); (focus assumption); (focus rfl)) | exact W9.lopC | fail) : LOp C o σ e ro := h
section steps
variable {C : Ctx} {ops : Array Oper} {o : Oper} {rest : List Oper} {K : St → Prop} {σ : St} {e : Eff} {ro : Nat → Bool} {W : List (Nat × Nat)} {i : Nat}
theorem rnC {d : Nat} (hk : RunN C ops rest K (e.app (some d) σ)) (hg : Guard ops σ o true := by first | exact gd_n rfl rfl | exact gd_t rfl rfl rfl rfl | exact gd_t rfl rfl rfl (by assumption)) (hd : o.dst = some d := by rfl) (h : LOp C o σ e ro := by exact lopC) : RunN C ops (o :: rest) K σ := rn_any hg hd h hk
end steps
end WC
open WC
theorem indexFuncK_w (f : FuncId) (caps : List PVal) (hf : FnT Tryz.prog f) (p : Kd → Bool) (l : List Kd) (ex : Bool) (h : l.length ≤ 1000000000) (hp : ∀ e ∈ l, PCall Tryz.prog f ([kV e] ++ caps.map .p) (.p (.b (p e)))) : PCall Tryz.prog 226 [.p (.sl 10 (l.map kR) ex), .p (.fnv f caps)] (.p (.i (idxK p l 0 l.length))) := by
  refine pcall_of Tryz.func226 rfl (fun w0 F S0 M0 => ?_)
  obtain ⟨A, hA⟩ : ∃ A, A = idxK p l 0 l.length := ⟨_, rfl⟩
  rw [← hA]
  repeat' (first | refine rnC ?_ | refine rnSB ?_ | refine rnG ?_ | refine rnU ?_ | ((fail_if_success (refine rnKn ?_)); refine rnP ?_ ?_ <;> (intro hq; try (have hq' := hq; simp only [hqs] at hq'))) | refine rkC ?_ | refine rkSB ?_ | refine rkF ?_ | refine rkU ?_ | ((fail_if_success (refine rkKn ?_)); refine rkP ?_ ?_ <;> (intro hq; try (have hq' := hq; simp only [hqs] at hq'))) | refine stp ?_ | refine ifT ?_ | refine ifF ?_ | (refine ifQ ?_ ?_ <;> (try (intro hn))) | (refine ifB ?_ ?_ <;> (intro hq; try (have hq' := hq; simp only [hqs] at hq'))))
  refine aws_loopS [4, 5, 8, 9, 10, 11, 12, 13, 14, 15, 16, 17, 18] [] (fun (i : Nat) => [(8, .p (.i i))]) (fun _ => []) (fun i => i ≤ l.length ∧ A = idxK p l i (l.length - i)) (fun i => l.length - i) 0 ⟨Nat.zero_le _, hA⟩ (by exact knA) (by exact knA) ?_
  rintro i β γ ⟨hi, hx⟩
  by_cases hil : i < l.length
  · have hlt : decide ((i : Int) < l.length) = true := decide_eq_true (by omega)
    rw [show l.length - i = (l.length - (i + 1)) + 1 by omega, idxK] at hx
    haveI : PC Tryz.prog f ([kV (l.getD (i : Int).toNat default)] ++ caps.map .p) True (.p (.b (p (l.getD (i : Int).toNat default)))) := ⟨fun _ => hp _ (by rw [Int.toNat_natCast, getD_at hil]; exact List.getElem_mem _)⟩
    cases hv : p (l.getD (i : Int).toNat default) with
    | true =>
      have hv' := hv
      rw [Int.toNat_natCast] at hv'
      rw [if_pos hv'] at hx
      rw [hx]
      as_aux_lemma =>
        repeat' (first | refine rnC ?_ | refine rnSB ?_ | refine rnG ?_ | refine rnU ?_ | ((fail_if_success (refine rnKn ?_)); refine rnP ?_ ?_ <;> (intro hq; try (have hq' := hq; simp only [hqs] at hq'))) | refine rkC ?_ | refine rkSB ?_ | refine rkF ?_ | refine rkU ?_ | ((fail_if_success (refine rkKn ?_)); refine rkP ?_ ?_ <;> (intro hq; try (have hq' := hq; simp only [hqs] at hq'))) | refine stp ?_ | refine ifT ?_ | refine ifF ?_ | (refine ifQ ?_ ?_ <;> (try (intro hn))) | (refine ifB ?_ ?_ <;> (intro hq; try (have hq' := hq; simp only [hqs] at hq'))))
        exact rt1 rfl rfl finS_p rfl
    | false =>
      have hv' := hv
      rw [Int.toNat_natCast] at hv'
      rw [if_neg (by rw [hv']; simp)] at hx
      as_aux_lemma =>
        repeat' (first | refine rnC ?_ | refine rnSB ?_ | refine rnG ?_ | refine rnU ?_ | ((fail_if_success (refine rnKn ?_)); refine rnP ?_ ?_ <;> (intro hq; try (have hq' := hq; simp only [hqs] at hq'))) | refine rkC ?_ | refine rkSB ?_ | refine rkF ?_ | refine rkU ?_ | ((fail_if_success (refine rkKn ?_)); refine rkP ?_ ?_ <;> (intro hq; try (have hq' := hq; simp only [hqs] at hq'))) | refine stp ?_ | refine ifT ?_ | refine ifF ?_ | (refine ifQ ?_ ?_ <;> (try (intro hn))) | (refine ifB ?_ ?_ <;> (intro hq; try (have hq' := hq; simp only [hqs] at hq'))))
        exact ⟨i + 1, _, by omega, ⟨by omega, hx⟩, .refl, by exact frA⟩
  · have hlt : decide ((i : Int) < l.length) = false := decide_eq_false (by omega)
    rw [show l.length - i = 0 by omega, idxK] at hx
    rw [hx]
    as_aux_lemma =>
      repeat' (first | refine rnC ?_ | refine rnSB ?_ | refine rnG ?_ | refine rnU ?_ | ((fail_if_success (refine rnKn ?_)); refine rnP ?_ ?_ <;> (intro hq; try (have hq' := hq; simp only [hqs] at hq'))) | refine rkC ?_ | refine rkSB ?_ | refine rkF ?_ | refine rkU ?_ | ((fail_if_success (refine rkKn ?_)); refine rkP ?_ ?_ <;> (intro hq; try (have hq' := hq; simp only [hqs] at hq'))) | refine stp ?_ | refine ifT ?_ | refine ifF ?_ | (refine ifQ ?_ ?_ <;> (try (intro hn))) | (refine ifB ?_ ?_ <;> (intro hq; try (have hq' := hq; simp only [hqs] at hq'))))
      exact rt1 rfl rfl finS_p rfl
theorem with1_w (e : Kd) (key : List Nat) (h1 : okB e.1) (h2 : okB key) : PCall Tryz.prog 257 ([kV e] ++ [PVal.bx [.v (.string (strOf key))] 0].map .p) (.p (.b (bLt key e.1))) := by
  refine pcall_of Tryz.func257 rfl (fun w0 F S0 M0 => ?_)
  as_aux_lemma =>
    repeat' (first | refine rnC ?_ | refine rnSB ?_ | refine rnG ?_ | refine rnU ?_ | ((fail_if_success (refine rnKn ?_)); refine rnP ?_ ?_ <;> (intro hq; try (have hq' := hq; simp only [hqs] at hq'))) | refine rkC ?_ | refine rkSB ?_ | refine rkF ?_ | refine rkU ?_ | ((fail_if_success (refine rkKn ?_)); refine rkP ?_ ?_ <;> (intro hq; try (have hq' := hq; simp only [hqs] at hq'))) | refine stp ?_ | refine ifT ?_ | refine ifF ?_ | (refine ifQ ?_ ?_ <;> (try (intro hn))) | (refine ifB ?_ ?_ <;> (intro hq; try (have hq' := hq; simp only [hqs] at hq'))))
    exact rt1 rfl rfl finS_p rfl
end Go.Proofs.YtclcfjejpogdlaaGreat.Wi
