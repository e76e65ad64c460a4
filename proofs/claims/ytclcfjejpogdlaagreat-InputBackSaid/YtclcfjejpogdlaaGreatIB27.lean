/- SHA-256, the program's: a digest's bytes; a block.; messages: digests written and read, what is left -/
import Derived.Test.YtclcfjejpogdlaaGreatIB26
import Derived.Test.YtclcfjejpogdlaaGreatIB22
import Derived.Test.YtclcfjejpogdlaaGreatIB18
namespace Go.Proofs.YtclcfjejpogdlaaGreat.Sh
open Go Go.RowKit Go.Aw Go.Aw.Sha
set_option linter.unusedVariables false
set_option linter.unusedSimpArgs false
set_option maxRecDepth 8000
/-- a byte's cell -/
abbrev bc (n : Nat) : AC := .p (.k .u8 (n : Int))
theorem digest_c (s : V8) : PCall Tryz.prog 87 [.a (v8 s)] (.a ((digest s).map bc)) := by
  refine pcall_of Tryz.func87 rfl (fun w0 F S0 M0 => ?_)
  repeat' (first | refine rnAW ?_ | refine rnS ?_ | refine rnG ?_ | refine rnU ?_ | ((fail_if_success (refine rnKn ?_)); refine rnP ?_ ?_ <;> (intro hq; try (have hq' := hq; simp only [hqs] at hq'))) | refine rkAW ?_ | refine rkS ?_ | refine rkF ?_ | refine rkU ?_ | ((fail_if_success (refine rkKn ?_)); refine rkP ?_ ?_ <;> (intro hq; try (have hq' := hq; simp only [hqs] at hq'))) | refine stp ?_ | refine ifT ?_ | refine ifF ?_ | (refine ifQ ?_ ?_ <;> (try (intro hn))) | (refine ifB ?_ ?_ <;> (intro hq; try (have hq' := hq; simp only [hqs] at hq'))))
  refine aws_loopS (7 :: [4, 5, 6, 8, 9, 10, 11, 12, 13, 14, 15, 16, 17, 18, 19, 20, 21, 22, 23, 24, 25, 26, 27]) [3] (fun (x : Nat × List Nat) => [(7, .a (s.list.map wc)), (8, .p (.i x.1))]) (fun x => [(3, (1, some (.box 31 (x.2.map bc))))])
    (fun x => x.1 ≤ 8 ∧ x.2 = digTo s (4 * x.1)) (fun x => 8 - x.1) (0, digTo s 0) ⟨Nat.zero_le _, rfl⟩ (by exact knA) (by exact knA) ?_
  rintro ⟨i, ds⟩ β γ ⟨hi, hds⟩
  simp only at hi hds
  have hdl : ds.length = 32 := by rw [hds]; exact digTo_len s _
  have hsl : s.list.length = 8 := rfl
  dsimp only
  repeat' (first | refine rnAW ?_ | refine rnS ?_ | refine rnG ?_ | refine rnU ?_ | ((fail_if_success (refine rnKn ?_)); refine rnP ?_ ?_ <;> (intro hq; try (have hq' := hq; simp only [hqs] at hq'))) | refine rkAW ?_ | refine rkS ?_ | refine rkF ?_ | refine rkU ?_ | ((fail_if_success (refine rkKn ?_)); refine rkP ?_ ?_ <;> (intro hq; try (have hq' := hq; simp only [hqs] at hq'))) | refine stp ?_ | refine ifT ?_ | refine ifF ?_ | (refine ifQ ?_ ?_ <;> (try (intro hn))) | (refine ifB ?_ ?_ <;> (intro hq; try (have hq' := hq; simp only [hqs] at hq'))))
  · refine aws_loopS [6, 12, 13, 14, 15, 16, 17, 18, 19, 20, 21, 22, 23, 24, 25, 26] [3] (fun (x : Nat × List Nat) => [(12, .p (.i x.1))]) (fun x => [(3, (1, some (.box 31 (x.2.map bc))))])
      (fun x => x.1 ≤ 4 ∧ x.2 = digTo s (4 * i + x.1)) (fun x => 4 - x.1) (0, ds) ⟨Nat.zero_le _, hds⟩ (by exact knA) (by exact knA) ?_
    rintro ⟨k, ds'⟩ β' γ' ⟨hk, hds'⟩
    simp only at hk hds'
    have hdl' : ds'.length = 32 := by rw [hds']; exact digTo_len s _
    dsimp only
    repeat' (first | refine rnAW ?_ | refine rnS ?_ | refine rnG ?_ | refine rnU ?_ | ((fail_if_success (refine rnKn ?_)); refine rnP ?_ ?_ <;> (intro hq; try (have hq' := hq; simp only [hqs] at hq'))) | refine rkAW ?_ | refine rkS ?_ | refine rkF ?_ | refine rkU ?_ | ((fail_if_success (refine rkKn ?_)); refine rkP ?_ ?_ <;> (intro hq; try (have hq' := hq; simp only [hqs] at hq'))) | refine stp ?_ | refine ifT ?_ | refine ifF ?_ | (refine ifQ ?_ ?_ <;> (try (intro hn))) | (refine ifB ?_ ?_ <;> (intro hq; try (have hq' := hq; simp only [hqs] at hq'))))
    · apply ex2 (k + 1)
      apply Exists.intro
      refine ⟨?_, ⟨?_, ?_⟩, .refl, ?_⟩
      rotate_left 3
      (focus exact frA)
      · dsimp only; omega
      · dsimp only; omega
      · dsimp only
        have e1 : (4 * (i : Int) + (k : Int)).toNat = 4 * i + k := by omega
        have e2 : ((24 : Int) - 8 * (k : Int)).toNat = 24 - 8 * k := by omega
        rw [e1, e2, Int.toNat_natCast, show 4 * i + (k + 1) = 4 * i + k + 1 from rfl, digTo, ← hds', show (4 * i + k) / 4 = i by omega, show (4 * i + k) % 4 = k by omega]
        rfl
    · refine ⟨(i + 1, ds'), _, by dsimp only; omega, ⟨by dsimp only; omega, ?_⟩, .refl, by exact frA⟩
      dsimp only; rw [hds']; congr 1; omega
  · refine rc1 rfl rfl rfl rfl rfl (by simpa using hdl) finL_p ?_
    rw [hds, show 4 * i = 32 by omega, digTo_all]
instance {s : V8} : PC Tryz.prog 87 [.a (v8 s)] True (.a ((digest s).map bc)) := ⟨fun _ => digest_c s⟩
theorem exV {p : Nat × V8 → Prop} (t : Nat) {a b c d e f g h : Nat} (H : p (t, ⟨a, b, c, d, e, f, g, h⟩)) : ∃ v, p v := ⟨_, H⟩
attribute [local irreducible] consts spreadTo steps Aw.Sha.step rotr
set_option maxHeartbeats 1000000 in
theorem block_c (s : V8) (b : List Nat) (ex : Bool) (h : b.length = 64) (hs : s.ok) : PCall Tryz.prog 86 [.a (v8 s), bytesN b ex] (.a (v8 (block s b))) := by
  refine pcall_of Tryz.func86 rfl (fun w0 F S0 M0 => ?_)
  repeat' (first | refine rnAW ?_ | refine rnS ?_ | refine rnG ?_ | refine rnU ?_ | ((fail_if_success (refine rnKn ?_)); refine rnP ?_ ?_ <;> (intro hq; try (have hq' := hq; simp only [hqs] at hq'))) | refine rkAW ?_ | refine rkS ?_ | refine rkF ?_ | refine rkU ?_ | ((fail_if_success (refine rkKn ?_)); refine rkP ?_ ?_ <;> (intro hq; try (have hq' := hq; simp only [hqs] at hq'))) | refine stp ?_ | refine ifT ?_ | refine ifF ?_ | (refine ifQ ?_ ?_ <;> (try (intro hn))) | (refine ifB ?_ ?_ <;> (intro hq; try (have hq' := hq; simp only [hqs] at hq'))))
  have hcl : consts.length = 64 := by with_unfolding_all rfl
  have hsl : (spreadTo b 64).length = 64 := spreadTo_len b 64
  refine aws_draws [(4, 5), (5, 6), (6, 7), (7, 5), (8, 6), (9, 7)] mixed (by kernel_rfl) ?_
  repeat' (first | refine rk_nil ?_ | refine rkAW ?_ | refine rkS ?_ | refine rkF ?_ | refine rkU ?_ | ((fail_if_success (refine rkKn ?_)); refine rkP ?_ ?_ <;> (intro hq; try (have hq' := hq; simp only [hqs] at hq'))))
  generalize hW : spreadTo b 64 = W at hsl ⊢
  repeat' (first | refine rnAW ?_ | refine rnS ?_ | refine rnG ?_ | refine rnU ?_ | ((fail_if_success (refine rnKn ?_)); refine rnP ?_ ?_ <;> (intro hq; try (have hq' := hq; simp only [hqs] at hq'))) | refine rkAW ?_ | refine rkS ?_ | refine rkF ?_ | refine rkU ?_ | ((fail_if_success (refine rkKn ?_)); refine rkP ?_ ?_ <;> (intro hq; try (have hq' := hq; simp only [hqs] at hq'))) | refine stp ?_ | refine ifT ?_ | refine ifF ?_ | (refine ifQ ?_ ?_ <;> (try (intro hn))) | (refine ifB ?_ ?_ <;> (intro hq; try (have hq' := hq; simp only [hqs] at hq'))))
  refine aws_loopS [8, 9, 10, 11, 12, 19, 20, 21, 22, 23, 24, 25, 26, 27, 28, 29, 30, 31, 32, 33, 34, 35, 36, 37, 38, 39, 40, 41, 42, 43, 44, 45, 46, 47, 48, 49, 50, 51, 52, 53, 54, 55, 56, 57, 58, 59, 60, 61, 62, 63, 64, 65, 66, 67, 68, 69, 70, 71, 72, 73, 74, 75, 76, 77, 78, 79, 80, 81, 82, 83, 84, 85, 86, 87, 88, 89, 90, 91, 92, 93, 94, 95, 96, 97, 98] [7] (fun (x : Nat × V8) => [(19, .p (.i x.1))]) (fun x => [(7, (1, some (.box 159 (v8 x.2))))])
    (fun x => x.1 ≤ 64 ∧ x.2 = steps W x.1 s) (fun x => 64 - x.1) (0, s) ⟨Nat.zero_le _, by with_unfolding_all rfl⟩ (by exact knA) (by exact knA) ?_
  rintro ⟨t, v⟩ β γ ⟨ht, hv⟩
  simp only at ht hv
  have hvk : v.ok := by rw [hv]; exact steps_ok hs W t
  obtain ⟨va, vb, vc, vd, ve, vf, vg, vh⟩ := v
  obtain ⟨ha, hb, hc, hd, he, hf, hg, hh⟩ := hvk
  simp only at ha hb hc hd he hf hg hh
  dsimp only
  repeat' (first | refine rnAW ?_ | refine rnS ?_ | refine rnG ?_ | refine rnU ?_ | ((fail_if_success (refine rnKn ?_)); refine rnP ?_ ?_ <;> (intro hq; try (have hq' := hq; simp only [hqs] at hq'))) | refine rkAW ?_ | refine rkS ?_ | refine rkF ?_ | refine rkU ?_ | ((fail_if_success (refine rkKn ?_)); refine rkP ?_ ?_ <;> (intro hq; try (have hq' := hq; simp only [hqs] at hq'))) | refine stp ?_ | refine ifT ?_ | refine ifF ?_ | (refine ifQ ?_ ?_ <;> (try (intro hn))) | (refine ifB ?_ ?_ <;> (intro hq; try (have hq' := hq; simp only [hqs] at hq'))))
  · refine aws_draws [] mixed (by kernel_rfl) ?_
    repeat' (first | refine rk_nil ?_ | refine rkAW ?_ | refine rkS ?_ | refine rkF ?_ | refine rkU ?_ | ((fail_if_success (refine rkKn ?_)); refine rkP ?_ ?_ <;> (intro hq; try (have hq' := hq; simp only [hqs] at hq'))))
    repeat' (first | refine rnAW ?_ | refine rnS ?_ | refine rnG ?_ | refine rnU ?_ | ((fail_if_success (refine rnKn ?_)); refine rnP ?_ ?_ <;> (intro hq; try (have hq' := hq; simp only [hqs] at hq'))) | refine rkAW ?_ | refine rkS ?_ | refine rkF ?_ | refine rkU ?_ | ((fail_if_success (refine rkKn ?_)); refine rkP ?_ ?_ <;> (intro hq; try (have hq' := hq; simp only [hqs] at hq'))) | refine stp ?_ | refine ifT ?_ | refine ifF ?_ | (refine ifQ ?_ ?_ <;> (try (intro hn))) | (refine ifB ?_ ?_ <;> (intro hq; try (have hq' := hq; simp only [hqs] at hq'))))
    refine aws_draws [] mixed (by kernel_rfl) ?_
    repeat' (first | refine rk_nil ?_ | refine rkAW ?_ | refine rkS ?_ | refine rkF ?_ | refine rkU ?_ | ((fail_if_success (refine rkKn ?_)); refine rkP ?_ ?_ <;> (intro hq; try (have hq' := hq; simp only [hqs] at hq'))))
    repeat' (first | refine rnAW ?_ | refine rnS ?_ | refine rnG ?_ | refine rnU ?_ | ((fail_if_success (refine rnKn ?_)); refine rnP ?_ ?_ <;> (intro hq; try (have hq' := hq; simp only [hqs] at hq'))) | refine rkAW ?_ | refine rkS ?_ | refine rkF ?_ | refine rkU ?_ | ((fail_if_success (refine rkKn ?_)); refine rkP ?_ ?_ <;> (intro hq; try (have hq' := hq; simp only [hqs] at hq'))) | refine stp ?_ | refine ifT ?_ | refine ifF ?_ | (refine ifQ ?_ ?_ <;> (try (intro hn))) | (refine ifB ?_ ?_ <;> (intro hq; try (have hq' := hq; simp only [hqs] at hq'))))
    refine aws_draws [] mixed (by kernel_rfl) ?_
    repeat' (first | refine rk_nil ?_ | refine rkAW ?_ | refine rkS ?_ | refine rkF ?_ | refine rkU ?_ | ((fail_if_success (refine rkKn ?_)); refine rkP ?_ ?_ <;> (intro hq; try (have hq' := hq; simp only [hqs] at hq'))))
    repeat' (first | refine rnAW ?_ | refine rnS ?_ | refine rnG ?_ | refine rnU ?_ | ((fail_if_success (refine rnKn ?_)); refine rnP ?_ ?_ <;> (intro hq; try (have hq' := hq; simp only [hqs] at hq'))) | refine rkAW ?_ | refine rkS ?_ | refine rkF ?_ | refine rkU ?_ | ((fail_if_success (refine rkKn ?_)); refine rkP ?_ ?_ <;> (intro hq; try (have hq' := hq; simp only [hqs] at hq'))) | refine stp ?_ | refine ifT ?_ | refine ifF ?_ | (refine ifQ ?_ ?_ <;> (try (intro hn))) | (refine ifB ?_ ?_ <;> (intro hq; try (have hq' := hq; simp only [hqs] at hq'))))
    apply exV (t + 1)
    apply Exists.intro
    refine ⟨?_, ⟨?_, ?_⟩, .refl, ?_⟩
    rotate_left 3
    (focus exact frA)
    · dsimp only; omega
    · dsimp only; omega
    · have e : steps W (t + 1) s = Aw.Sha.step (steps W t s) (consts.getD t default) (W.getD t default) := by with_unfolding_all rfl
      dsimp only
      rw [e, ← hv, Int.toNat_natCast]
      unfold Aw.Sha.step stepX stepY
      rfl
  · repeat' (first
    | refine rnAW ?_
    | refine rnS ?_
    | refine rnG ?_
    | refine rnU ?_
    | ((fail_if_success (refine rnKn ?_)); refine rnP ?_ ?_ <;> (intro hq; try (have hq' := hq; simp only [hqs] at hq')))
    | refine rkAW ?_
    | refine rkS ?_
    | refine rkF ?_
    | refine rkU ?_
    | ((fail_if_success (refine rkKn ?_)); refine rkP ?_ ?_ <;> (intro hq; try (have hq' := hq; simp only [hqs] at hq')))
    | refine stp ?_
    | refine ifT ?_
    | refine ifF ?_
    | (refine ifQ ?_ ?_ <;> (try (intro hn)))
    | (refine ifB ?_ ?_ <;> (intro hq; try (have hq' := hq; simp only [hqs] at hq'))))
    have ht64 : t = 64 := by omega
    subst ht64
    generalize hV : (V8.mk va vb vc vd ve vf vg vh) = V at hv
    refine aws_loopS (99 :: [13, 14, 100, 101, 102, 103, 104, 105, 106, 107, 108, 109, 110]) [2] (fun (x : Nat × List Nat) => [(99, .a (V.list.map wc)), (100, .p (.i x.1))]) (fun x => [(2, (1, some (.box 159 (x.2.map wc))))])
      (fun x => x.1 ≤ 8 ∧ x.2 = addTo s V x.1) (fun x => 8 - x.1) (0, addTo s V 0) ⟨Nat.zero_le _, rfl⟩ (by subst hV; exact knA) (by exact knA) ?_
    rintro ⟨i, ds⟩ β' γ' ⟨hi, hds⟩
    simp only at hi hds
    have hdl : ds.length = 8 := by rw [hds]; exact addTo_len s V _
    have hVl : V.list.length = 8 := rfl
    dsimp only
    repeat' (first | refine rnAW ?_ | refine rnS ?_ | refine rnG ?_ | refine rnU ?_ | ((fail_if_success (refine rnKn ?_)); refine rnP ?_ ?_ <;> (intro hq; try (have hq' := hq; simp only [hqs] at hq'))) | refine rkAW ?_ | refine rkS ?_ | refine rkF ?_ | refine rkU ?_ | ((fail_if_success (refine rkKn ?_)); refine rkP ?_ ?_ <;> (intro hq; try (have hq' := hq; simp only [hqs] at hq'))) | refine stp ?_ | refine ifT ?_ | refine ifF ?_ | (refine ifQ ?_ ?_ <;> (try (intro hn))) | (refine ifB ?_ ?_ <;> (intro hq; try (have hq' := hq; simp only [hqs] at hq'))))
    · apply ex2 (i + 1)
      apply Exists.intro
      refine ⟨?_, ⟨?_, ?_⟩, .refl, ?_⟩
      rotate_left 3
      (focus exact frA)
      · dsimp only; omega
      · dsimp only; omega
      · dsimp only
        rw [addTo, ← hds, Int.toNat_natCast]; rfl
    · refine rc1 rfl rfl rfl rfl rfl (by simpa using hdl) finL_p ?_
      have hi8 : i = 8 := by omega
      rw [hds, hi8, addTo_all, hv, ← hW]
      rfl
end Go.Proofs.YtclcfjejpogdlaaGreat.Sh
namespace Go.Aw
open Go Go.RowKit
/-- bytes copied over a whole own array -/
theorem lop_cp_ar {C : Ctx} {o : Oper} {σ : St} {α : Type} {q : α → PVal} {m : List α} {T T2 e : TypeId} {x y : Operand} {sz by_ be : Nat} {ke : TK} {ob g k cap n ty : Nat} {cs : List AC} {ex : Bool} (ho : o.op = .call ⟨.builtin .copy, #[x, y], #[T, T2]⟩) (hT : TI C.P T (.slice e) sz by_) (he : TI C.P e ke 1 be)
    (hx : σ.look x = .o (.asl ob g 0 k cap)) (hm : σ.mem ob = (n, some (.box ty cs))) (hn : n = g + 1) (hy : σ.look y = .p (.sl 1 (m.map fun a => [q a]) ex)) (hcl : cs.length = k) (hml : m.length = k) (h0 : 0 < k) (hd : dOk C o.dst = true) :
    LOp C o σ ⟨.p (.v (.int .i64 k)), [(ob, (n, some (.box ty (m.map fun a => .p (q a)))))]⟩ (fun z => z == ob) :=
  lop_same (by simp) hd hm fun τ a w G g' mm hl hm' h hng hmm hh => by
    subst hn
    obtain rfl : g = g' := by omega
    obtain ⟨b, c, k1, k2⟩ := look_of h ((hl x (by simp [ho, Op.operands, Call.operands])).trans hx)
    rw [k1] at hmm; obtain rfl := Option.some.inj hmm
    obtain ⟨b', arr, h4, h5, h6, h7⟩ := hh
    simp only [Option.some.injEq] at h4; subst h4
    obtain ⟨ad, sc, s1, s2⟩ := ((src_sl (σ := σ) (C := C) hy).n (by rw [List.length_map]; omega)) τ a w G (hl y (by simp [ho, Op.operands, Call.operands])) (fun _ hq => by cases hq) h
    rw [List.length_map, hml] at s1
    obtain ⟨nvs, v1, v2, v3, v4⟩ := rows_vals (X := ⟨w, G.S⟩) (es := 1) (f := fun j => w.cell? (ad.add j)) _ s2
    rw [List.length_map, hml, Nat.mul_one] at v1
    obtain ⟨dd, hdd, hkk⟩ := hT.undd
    have : dd = .slice e := by cases dd <;> simp [TK.of] at hkk; rw [hkk]
    subst this
    have hal : arr.length = k := by rw [← h7.1, hcl]
    have hmin : Nat.min k k = k := Nat.min_self k
    have hr := run_copy_es (P := C.P) w T T2 o.type e b 0 k cap ad k sc 1 arr.toArray ty nvs hdd he.run_sizeOf h6 (by rw [v1, hmin, Nat.mul_one]) v2 (by simp; omega) v3
    rw [hmin] at hr
    have e1 : (arr.toArray.toList.take 0 ++ nvs ++ arr.toArray.toList.drop (0 + nvs.length)) = nvs := by
      rw [List.take_zero, List.nil_append, List.drop_of_length_le (by simp; omega), List.append_nil]
    rw [e1] at hr
    have hbS : ¬ G.S b := h.stab ob b (by rw [h5]; simp)
    have hle : Wd.le ⟨w, G.S⟩ ⟨w.setRow b nvs.toArray, G.S⟩ := fun q hq => ⟨hq, setRow_other w b q _ fun e => hbS (e ▸ hq)⟩
    refine ⟨_, goInt k, _, by
      simp only [execOp, ho, resolve, invoke, builtin, Sem.run_bind, Sem.run_pure, Result.andThen_ok, List.map_toArray, List.map_cons, List.map_nil, k2, s1, hr]
      rfl, .inl rfl, setRow_frame.1, setRow_frame.2.1, setRow_frame.2.2.1, setRow_frame.2.2.2, fun q _ hq => setRow_other w b q _ fun e => hq (by rw [h5, e]; simp), ?_, rfl, rfl⟩
    refine ⟨b, nvs, rfl, h5, setRow_heap w b _ _ ty _ h6, ?_⟩
    refine ⟨by rw [List.length_map]; omega, fun i p v hp hv => ?_⟩
    rw [List.getElem?_map] at hp
    cases hi : m[i]? with
    | none => rw [hi] at hp; cases hp
    | some z =>
      rw [hi] at hp
      obtain rfl := Option.some.inj hp
      obtain ⟨_, u2⟩ := v4 i [q z] (by rw [List.getElem?_map, hi]; rfl)
      obtain ⟨cc, u3, u4⟩ := u2 0 (q z) rfl
      rw [Nat.mul_one, Nat.add_zero, hv] at u3
      obtain rfl := Option.some.inj u3
      exact (q z).mono hle u4
theorem lop_ptr_nenil {C : Ctx} {o : Oper} {σ : St} {t e t' : TypeId} {x y : Operand} {sz by_ : Nat} {ob g off : Nat} (ho : o.op = .binOp .neq t x y t') (hT : TI C.P t (.ptr e) sz by_) (hx : σ.look x = .o (.ptr ob g off)) (hy : σ.look y = .p (.v (.pointer none))) (hd : dOk C o.dst = true) :
    LOp C o σ ⟨.p (.v (.bool true)), []⟩ (fun _ => false) :=
  lop_val hd fun τ a w G hl hm h => by
    obtain ⟨b, c, h1, h2⟩ := look_of h ((hl x (by simp [ho, Op.operands])).trans hx)
    have e2 := val_of h ((hl y (by simp [ho, Op.operands])).trans hy)
    obtain ⟨d, hdd, hk⟩ := hT.undd
    have : d = .pointer e := by cases d <;> simp [TK.of] at hk; rw [hk]
    subst this
    refine ⟨.bool true, ?_, rfl, rfl⟩
    have hr := run_neq_pointer_nil (P := C.P) w t (some ⟨b, off, none⟩) (by simp [Program.pointee, hdd])
    simp only [execOp, ho, h2, e2, Sem.run_bind]
    have hg : (eqGuard .neq t x y (.pointer (some ⟨b, off, none⟩)) (.pointer none)).run C.P w = .ok () w := by
      unfold eqGuard; simp [pure]
    rw [hg]; simp [hr]
/-- nothing copied -/
theorem lop_cp_0 {C : Ctx} {o : Oper} {σ : St} {T T2 e : TypeId} {x y : Operand} {sz by_ be : Nat} {ke : TK} {ob g k cap n ty : Nat} {cs : List AC} {ex : Bool} (ho : o.op = .call ⟨.builtin .copy, #[x, y], #[T, T2]⟩) (hT : TI C.P T (.slice e) sz by_) (he : TI C.P e ke 1 be)
    (hx : σ.look x = .o (.asl ob g 0 k cap)) (hm : σ.mem ob = (n, some (.box ty cs))) (hn : n = g + 1) (hy : σ.look y = .p (.sl 1 [] ex)) (hcl : cs.length = k) (hd : dOk C o.dst = true) :
    LOp C o σ ⟨.p (.v (.int .i64 0)), [(ob, (n, some (.box ty cs)))]⟩ (fun z => z == ob) :=
  lop_same (by simp) hd hm fun τ a w G g' mm hl hm' h hng hmm hh => by
    subst hn
    obtain rfl : g = g' := by omega
    obtain ⟨b, c, k1, k2⟩ := look_of h ((hl x (by simp [ho, Op.operands, Call.operands])).trans hx)
    rw [k1] at hmm; obtain rfl := Option.some.inj hmm
    obtain ⟨b', arr, h4, h5, h6, h7⟩ := hh
    simp only [Option.some.injEq] at h4; subst h4
    obtain ⟨base, sc, s1, s2⟩ := (src_sl (σ := σ) (C := C) hy) τ a w G (hl y (by simp [ho, Op.operands, Call.operands])) (fun _ hq => by cases hq) h
    obtain ⟨dd, hdd, hkk⟩ := hT.undd
    have : dd = .slice e := by cases dd <;> simp [TK.of] at hkk; rw [hkk]
    subst this
    have hal : arr.length = k := by rw [← h7.1, hcl]
    have hmin : Nat.min 0 k = 0 := Nat.zero_min k
    have hst := run_storeCells_at C.P b 0 ty [] 0 arr.toArray w h6 (by simp) (fun v hv => by cases hv)
    simp only [Nat.add_zero, List.length_nil, List.take_zero, List.nil_append, List.drop_zero, List.append_nil] at hst
    have hr : (Builtin.copy_ #[T, T2] o.type #[.slice (some ⟨b, 0, none⟩) k cap, .slice base 0 sc]).run C.P w = .ok (goInt 0) (w.setRow b arr.toArray) := by
      cases base with
      | none => simp [Builtin.copy_, run_underlying hdd, Builtin.lenOf, Builtin.firstCells, he.run_sizeOf, hmin, hst]
      | some ad =>
        have hl0 := run_loadCells_list (P := C.P) w ad [] (fun j v hj => by cases hj)
        rw [List.length_nil] at hl0
        simp [Builtin.copy_, run_underlying hdd, Builtin.lenOf, Builtin.firstCells, he.run_sizeOf, hmin, hl0, hst]
    have hbS : ¬ G.S b := h.stab ob b (by rw [h5]; simp)
    have hle : Wd.le ⟨w, G.S⟩ ⟨w.setRow b arr.toArray, G.S⟩ := fun q hq => ⟨hq, setRow_other w b q _ fun e => hbS (e ▸ hq)⟩
    refine ⟨_, goInt 0, _, by
      simp only [execOp, ho, resolve, invoke, builtin, Sem.run_bind, Sem.run_pure, Result.andThen_ok, List.map_toArray, List.map_cons, List.map_nil, k2, s1, List.length_nil, hr]
      rfl, .inl rfl, setRow_frame.1, setRow_frame.2.1, setRow_frame.2.2.1, setRow_frame.2.2.2, fun q _ hq => setRow_other w b q _ fun e => hq (by rw [h5, e]; simp), ?_, rfl, rfl⟩
    exact ⟨b, arr, rfl, h5, setRow_heap w b _ _ ty _ h6, h7.mono fun _ _ k => k.mono (Mu.le.refl _) hle⟩
end Go.Aw
namespace Go.Proofs.YtclcfjejpogdlaaGreat.Wi
open Go Go.RowKit Go.Aw Go.Aw.Cart Go.Proofs.YtclcfjejpogdlaaGreat.Ca
set_option linter.unusedVariables false
set_option linter.unusedSimpArgs false
set_option maxRecDepth 8000
set_option maxHeartbeats 4000000
abbrev bcD (n : Nat) : AC := .p (.k .u8 (n : Int))
abbrev dgV (d : List Nat) : AV := .a (d.map bcD)
def zeroD : List Nat := List.replicate 32 0
/-- a digest read -/
def digS : RS → List Nat × RS := bindS (takeS 32) fun l => pureS (if l.length = 32 then l else zeroD)
theorem par_dig : Par digS := par_bind (par_take _) fun _ => par_pure _
theorem take_32 (r : RS) : (takeS 32 r).1.length = 32 ∨ (takeS 32 r).1 = [] := by
  unfold takeS
  split
  · exact .inr rfl
  · split
    · exact .inr rfl
    · left; rw [List.length_take]; omega
theorem dig_len (r : RS) : (digS r).1.length = 32 := by
  show (if (takeS 32 r).1.length = 32 then (takeS 32 r).1 else zeroD).length = 32
  split
  · assumption
  · rfl
theorem dig_ok (r : RS) (h : rdOk r) : okB (digS r).1 := by
  show okB (if (takeS 32 r).1.length = 32 then (takeS 32 r).1 else zeroD)
  split
  · exact (take_byte (n := 32) h.1).1
  · intro c hc; rw [List.eq_of_mem_replicate hc]; decide
namespace T1
theorem lopC {C : Ctx} {o : Oper} {σ : St} {e : Eff} {ro : Nat → Bool} (h : LOp C o σ e ro := by
    first | (apply lop_ptr_nenil; (focus rfl); (focus exact inferInstance); (focus rfl); (focus rfl); (focus rfl)) | exact W9.lopC | exact lopB | fail) : LOp C o σ e ro := h
section steps
variable {C : Ctx} {ops : Array Oper} {o : Oper} {rest : List Oper} {K : St → Prop} {σ : St} {e : Eff} {ro : Nat → Bool} {W : List (Nat × Nat)} {i : Nat}
theorem rnC {d : Nat} (hk : RunN C ops rest K (e.app (some d) σ)) (hg : Guard ops σ o true := by first | exact gd_n rfl rfl | exact gd_t rfl rfl rfl rfl | exact gd_t rfl rfl rfl (by assumption)) (hd : o.dst = some d := by rfl) (h : LOp C o σ e ro := by exact lopC) : RunN C ops (o :: rest) K σ := rn_any hg hd h hk
theorem rkC {d : Nat} (hk : RunK C ops W (i + 1) rest K (e.app (some d) σ)) (hg : Guard ops σ o true := by first | exact gd_n rfl rfl | exact gd_t rfl rfl rfl rfl | exact gd_t rfl rfl rfl (by assumption)) (hd' : o.dst = some d := by rfl) (hd : dOk C o.dst = true := by rfl) (h : LOp C o σ e ro := by exact lopC)
    (hro : ∀ x, ro x = true → okObj ops W i x = true := by first | exact fun _ => ro_none | exact ro_one rfl | exact ro_k1 rfl | exact ro_one (by kernel_rfl) | exact ro_k1 (by kernel_rfl) | exact ro_kIn (by decide)) (hob : ∀ p ∈ e.obj, (i, p.1) ∈ W := by first | exact ob_none | exact ob_one (by decide) | decide) : RunK C ops W i (o :: rest) K σ := rk_wr hg hd' hd h hro hob hk
end steps
end T1
open T1
theorem ro_2 {ops : Array Oper} {W : List (Nat × Nat)} {i a b : Nat} (h : okObj ops W i a = true) (k : okObj ops W i b = true) : ∀ x, (fun q : Nat => q == a || q == b) x = true → okObj ops W i x = true := fun x hx => by
  rcases Bool.or_eq_true_iff.1 hx with q | q
  · rw [beq_iff_eq.1 q]; exact h
  · rw [beq_iff_eq.1 q]; exact k
theorem wdig_o (n : Nat) (bs d : List Nat) (hd : d.length = 32) (h : bs.length ≤ 900000000) : OCall Tryz.prog 94 [.o (.ptr 1000 n 0), dgV d] (memL [(1000, (n + 1, some (.abs (wrA bs))))]) (.tup []) (memL [(1000, (n + 1, some (.abs (wrA (bs ++ d)))))]) := by
  refine ocall_of1 Tryz.func94 rfl (fun w0 F S0 M0 => ?_)
  refine aws_endS ?_
  refine aws_says (says_unpack' (p := 1000) (o := 901) rfl rfl (List.length_map _) rfl (by decide)) ?_
  repeat' (first | refine rnC ?_ | refine rnSB ?_ | refine rnG ?_ | refine rnU ?_ | ((fail_if_success (refine rnKn ?_)); refine rnP ?_ ?_ <;> (intro hq; try (have hq' := hq; simp only [hqs] at hq'))) | refine rkC ?_ | refine rkSB ?_ | refine rkF ?_ | refine rkU ?_ | ((fail_if_success (refine rkKn ?_)); refine rkP ?_ ?_ <;> (intro hq; try (have hq' := hq; simp only [hqs] at hq'))) | refine stp ?_ | refine ifT ?_ | refine ifF ?_ | (refine ifQ ?_ ?_ <;> (try (intro hn))) | (refine ifB ?_ ?_ <;> (intro hq; try (have hq' := hq; simp only [hqs] at hq'))))
  refine aws_draws [(6, 901), (9, 1000)] mixed (by kernel_rfl) ?_
  repeat' (first | refine rk_nil ?_ | refine rkC ?_ | refine rkSB ?_ | refine rkF ?_ | refine rkU ?_ | ((fail_if_success (refine rkKn ?_)); refine rkP ?_ ?_ <;> (intro hq; try (have hq' := hq; simp only [hqs] at hq'))))
  refine rk_wr (gd_n rfl rfl) rfl rfl (lop_ap_ow (ob := 901) (ob2 := 3) (l := d) (m := bs) (q := fun n : Nat => PVal.k .u8 (n : Int)) rfl inferInstance inferInstance inferInstance rfl rfl rfl rfl rfl rfl rfl hd rfl (by simp only [maxLen]; omega) (by show (bs.length + 32) * 1 ≤ _; omega) rfl) (ro_2 (by kernel_rfl) (by kernel_rfl)) (ob_one (by decide)) ?_
  repeat' (first | refine rk_nil ?_ | refine rkC ?_ | refine rkSB ?_ | refine rkF ?_ | refine rkU ?_ | ((fail_if_success (refine rkKn ?_)); refine rkP ?_ ?_ <;> (intro hq; try (have hq' := hq; simp only [hqs] at hq'))))
  as_aux_lemma =>
    repeat' (first | refine rnC ?_ | refine rnSB ?_ | refine rnG ?_ | refine rnU ?_ | ((fail_if_success (refine rnKn ?_)); refine rnP ?_ ?_ <;> (intro hq; try (have hq' := hq; simp only [hqs] at hq'))) | refine rkC ?_ | refine rkSB ?_ | refine rkF ?_ | refine rkU ?_ | ((fail_if_success (refine rkKn ?_)); refine rkP ?_ ?_ <;> (intro hq; try (have hq' := hq; simp only [hqs] at hq'))) | refine stp ?_ | refine ifT ?_ | refine ifF ?_ | (refine ifQ ?_ ?_ <;> (try (intro hn))) | (refine ifB ?_ ?_ <;> (intro hq; try (have hq' := hq; simp only [hqs] at hq'))))
    exact ⟨_, says_pack (p := 1000) (o := 901) (pre := []) (post := []) rfl rfl rfl rfl (by rw [List.length_map]) (by decide), RetO.mk (res0 rfl rfl) ⟨.abs, trivial⟩⟩
theorem ren_dgV (c : Nat) (d : List Nat) : AV.ren (rn1 c) (dgV d) = dgV d := by
  show AV.a ((d.map _).map _) = _
  rw [List.map_map]; rfl
instance wdig_i {c g n : Nat} {bs d : List Nat} : OC Tryz.prog 94 [.o (.ptr c g 0), dgV d] [(c, (n, some (.abs (wrA bs))))] [] (n = g + 1 ∧ d.length = 32 ∧ bs.length ≤ 900000000) (.tup []) [(c, (n, some (.abs (wrA (bs ++ d)))))] := ⟨fun h => by obtain ⟨rfl, h1, h2⟩ := h; have := (wdig_o g bs d h1 h2).one c; rw [List.map_cons, List.map_cons, ren_dgV] at this; exact this⟩
theorem rdig_o (n : Nat) (r : RS) : OCall Tryz.prog 98 [.o (.ptr 1000 n 0)] (memL [(1000, (n + 1, some (rdM r)))]) (dgV (digS r).1) (memL [(1000, (n + 1, some (rdM (digS r).2)))]) := by
  refine ocall_of1 Tryz.func98 rfl (fun w0 F S0 M0 => ?_)
  have e : digS r = (if (takeS 32 r).1.length = 32 then (takeS 32 r).1 else zeroD, (takeS 32 r).2) := rfl
  rw [e]
  have h32 := take_32 r
  haveI : ∀ c g m : Nat, OC Tryz.prog 191 [.o (.ptr c g 0), .p (.i 32)] [(c, (m, some (rdM r)))] [] (m = g + 1) (.p (.sl 1 ((takeS 32 r).1.map bR) true)) [(c, (m, some (rdM (takeS 32 r).2)))] := fun c g m => ⟨fun h => by obtain rfl := h; exact (take_o g r 32).one c⟩
  generalize takeS 32 r = q at *
  obtain ⟨L, r2⟩ := q
  dsimp only at *
  rcases h32 with h | h
  · rw [if_pos h]
    repeat' (first | refine rnC ?_ | refine rnSB ?_ | refine rnG ?_ | refine rnU ?_ | ((fail_if_success (refine rnKn ?_)); refine rnP ?_ ?_ <;> (intro hq; try (have hq' := hq; simp only [hqs] at hq'))) | refine rkC ?_ | refine rkSB ?_ | refine rkF ?_ | refine rkU ?_ | ((fail_if_success (refine rkKn ?_)); refine rkP ?_ ?_ <;> (intro hq; try (have hq' := hq; simp only [hqs] at hq'))) | refine stp ?_ | refine ifT ?_ | refine ifF ?_ | (refine ifQ ?_ ?_ <;> (try (intro hn))) | (refine ifB ?_ ?_ <;> (intro hq; try (have hq' := hq; simp only [hqs] at hq'))))
    refine aws_draws [(2, 1000), (3, 3)] mixed (by kernel_rfl) ?_
    repeat' (first | refine rk_nil ?_ | refine rkC ?_ | refine rkSB ?_ | refine rkF ?_ | refine rkU ?_ | ((fail_if_success (refine rkKn ?_)); refine rkP ?_ ?_ <;> (intro hq; try (have hq' := hq; simp only [hqs] at hq'))))
    refine rk_wr (gd_n rfl rfl) rfl rfl (lop_cp_ar (ob := 3) (k := 32) (m := L) rfl inferInstance inferInstance rfl rfl rfl rfl rfl h (by decide) rfl) (fun x hx => by rw [beq_iff_eq] at hx; subst hx; kernel_rfl) (ob_one (by decide)) ?_
    repeat' (first | refine rk_nil ?_ | refine rkC ?_ | refine rkSB ?_ | refine rkF ?_ | refine rkU ?_ | ((fail_if_success (refine rkKn ?_)); refine rkP ?_ ?_ <;> (intro hq; try (have hq' := hq; simp only [hqs] at hq'))))
    as_aux_lemma =>
      repeat' (first | refine rnC ?_ | refine rnSB ?_ | refine rnG ?_ | refine rnU ?_ | ((fail_if_success (refine rnKn ?_)); refine rnP ?_ ?_ <;> (intro hq; try (have hq' := hq; simp only [hqs] at hq'))) | refine rkC ?_ | refine rkSB ?_ | refine rkF ?_ | refine rkU ?_ | ((fail_if_success (refine rkKn ?_)); refine rkP ?_ ?_ <;> (intro hq; try (have hq' := hq; simp only [hqs] at hq'))) | refine stp ?_ | refine ifT ?_ | refine ifF ?_ | (refine ifQ ?_ ?_ <;> (try (intro hn))) | (refine ifB ?_ ?_ <;> (intro hq; try (have hq' := hq; simp only [hqs] at hq'))))
      exact RetO.mk (oc1 rfl rfl rfl rfl rfl (by rw [List.length_map]; exact h) finL_p rfl) ⟨.box finL_p, trivial⟩
  · subst h
    rw [if_neg (by decide)]
    repeat' (first | refine rnC ?_ | refine rnSB ?_ | refine rnG ?_ | refine rnU ?_ | ((fail_if_success (refine rnKn ?_)); refine rnP ?_ ?_ <;> (intro hq; try (have hq' := hq; simp only [hqs] at hq'))) | refine rkC ?_ | refine rkSB ?_ | refine rkF ?_ | refine rkU ?_ | ((fail_if_success (refine rkKn ?_)); refine rkP ?_ ?_ <;> (intro hq; try (have hq' := hq; simp only [hqs] at hq'))) | refine stp ?_ | refine ifT ?_ | refine ifF ?_ | (refine ifQ ?_ ?_ <;> (try (intro hn))) | (refine ifB ?_ ?_ <;> (intro hq; try (have hq' := hq; simp only [hqs] at hq'))))
    refine aws_draws [(2, 1000), (3, 3)] mixed (by kernel_rfl) ?_
    repeat' (first | refine rk_nil ?_ | refine rkC ?_ | refine rkSB ?_ | refine rkF ?_ | refine rkU ?_ | ((fail_if_success (refine rkKn ?_)); refine rkP ?_ ?_ <;> (intro hq; try (have hq' := hq; simp only [hqs] at hq'))))
    refine rk_wr (gd_n rfl rfl) rfl rfl (lop_cp_0 (ob := 3) (k := 32) rfl inferInstance inferInstance rfl rfl rfl rfl rfl rfl) (fun x hx => by rw [beq_iff_eq] at hx; subst hx; kernel_rfl) (ob_one (by decide)) ?_
    repeat' (first | refine rk_nil ?_ | refine rkC ?_ | refine rkSB ?_ | refine rkF ?_ | refine rkU ?_ | ((fail_if_success (refine rkKn ?_)); refine rkP ?_ ?_ <;> (intro hq; try (have hq' := hq; simp only [hqs] at hq'))))
    as_aux_lemma =>
      repeat' (first | refine rnC ?_ | refine rnSB ?_ | refine rnG ?_ | refine rnU ?_ | ((fail_if_success (refine rnKn ?_)); refine rnP ?_ ?_ <;> (intro hq; try (have hq' := hq; simp only [hqs] at hq'))) | refine rkC ?_ | refine rkSB ?_ | refine rkF ?_ | refine rkU ?_ | ((fail_if_success (refine rkKn ?_)); refine rkP ?_ ?_ <;> (intro hq; try (have hq' := hq; simp only [hqs] at hq'))) | refine stp ?_ | refine ifT ?_ | refine ifF ?_ | (refine ifQ ?_ ?_ <;> (try (intro hn))) | (refine ifB ?_ ?_ <;> (intro hq; try (have hq' := hq; simp only [hqs] at hq'))))
      exact RetO.mk (oc1 rfl rfl rfl rfl rfl rfl finL_p rfl) ⟨.box finL_p, trivial⟩
theorem left_o (n : Nat) (r : RS) : OCall Tryz.prog 101 [.o (.ptr 1000 n 0)] (memL [(1000, (n + 1, some (rdM r)))]) (.p (.i (if r.2 = 0 then (r.1.length : Int) else 0))) (memL [(1000, (n + 1, some (rdM r)))]) := by
  refine ocall_of1 Tryz.func101 rfl (fun w0 F S0 M0 => ?_)
  by_cases h : r.2 = 0
  · have d1 : decide (r.2 ≠ 0) = false := decide_eq_false fun q => q h
    rw [if_pos h]
    as_aux_lemma =>
      repeat' (first | refine rnC ?_ | refine rnSB ?_ | refine rnG ?_ | refine rnU ?_ | ((fail_if_success (refine rnKn ?_)); refine rnP ?_ ?_ <;> (intro hq; try (have hq' := hq; simp only [hqs] at hq'))) | refine rkC ?_ | refine rkSB ?_ | refine rkF ?_ | refine rkU ?_ | ((fail_if_success (refine rkKn ?_)); refine rkP ?_ ?_ <;> (intro hq; try (have hq' := hq; simp only [hqs] at hq'))) | refine stp ?_ | refine ifT ?_ | refine ifF ?_ | (refine ifQ ?_ ?_ <;> (try (intro hn))) | (refine ifB ?_ ?_ <;> (intro hq; try (have hq' := hq; simp only [hqs] at hq'))))
      exact RetO.mk (ot1 rfl rfl finS_p rfl) ⟨.box finL_p, trivial⟩
  · have d1 : decide (r.2 ≠ 0) = true := decide_eq_true h
    rw [if_neg h]
    as_aux_lemma =>
      repeat' (first | refine rnC ?_ | refine rnSB ?_ | refine rnG ?_ | refine rnU ?_ | ((fail_if_success (refine rnKn ?_)); refine rnP ?_ ?_ <;> (intro hq; try (have hq' := hq; simp only [hqs] at hq'))) | refine rkC ?_ | refine rkSB ?_ | refine rkF ?_ | refine rkU ?_ | ((fail_if_success (refine rkKn ?_)); refine rkP ?_ ?_ <;> (intro hq; try (have hq' := hq; simp only [hqs] at hq'))) | refine stp ?_ | refine ifT ?_ | refine ifF ?_ | (refine ifQ ?_ ?_ <;> (try (intro hn))) | (refine ifB ?_ ?_ <;> (intro hq; try (have hq' := hq; simp only [hqs] at hq'))))
      exact RetO.mk (ot1 rfl rfl finS_p rfl) ⟨.box finL_p, trivial⟩
end Go.Proofs.YtclcfjejpogdlaaGreat.Wi
