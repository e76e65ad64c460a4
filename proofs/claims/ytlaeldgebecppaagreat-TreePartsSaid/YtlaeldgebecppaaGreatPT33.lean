/- the reference's writers; the reference's writers: whole numbers, texts, vectors -/
import Derived.Test.YtlaeldgebecppaaGreatPT32
namespace Go.Proofs.YtlaeldgebecppaaGreat.Wi
open Go Go.RowKit Go.Aw Go.Aw.Cart Go.Proofs.YtlaeldgebecppaaGreat.Ca
set_option linter.unusedVariables false
set_option linter.unusedSimpArgs false
set_option maxRecDepth 8000
set_option maxHeartbeats 4000000
/-- one byte, written out, that grows from now on -/
theorem lop_boB {C : Ctx} {o : Oper} {σ : St} {T e : TypeId} {sz by_ : Nat} {ke : TK} {be : Nat} {z : List Value} {d n0 : Nat} {mo0 : Option MO} {x0 : Operand} {m : Int} {v : Nat} (ho : o.op = .buildSlice T 1 #[(0, x0)]) (hT : TI C.P T (.slice e) sz by_) (he : TI C.P e ke 1 be) (hz : TZ C.P e z) (hdst : o.dst = some d) (hm0 : σ.mem d = (n0, mo0)) (h0 : σ.look x0 = .p (.v (.int .u8 m))) (hv : m = (v : Int)) (hd : dOk C o.dst = true) :
    LOp C o σ ⟨.o (.osl d n0 1 0 ([v] : List Nat).length), [(d, (n0 + 1, some (.buf e 1 (([v] : List Nat).map bR))))]⟩ (fun q => q == d) := by
  subst hv
  exact lop_bo1 ho hT he hz hdst hm0 h0 hd
theorem be_is {f x : Nat} {l : List Nat} {n : Nat} (h : beF (f + 1) x ++ l = be n) (hx : x ≠ 0) : beF f (x / 256) ++ ([x % 256] ++ l) = be n := by
  rw [beF, if_neg hx, List.append_assoc] at h
  exact h
theorem refNum_w (n : Nat) (hn : n < 18446744073709551616) : PCall Tryz.prog 97 [.p (.k .u64 (n : Int))] (.p (.sl 1 ((numB n).map bR) false)) := by
  refine pcall_of Tryz.func97 rfl (fun w0 F S0 M0 => ?_)
  open W6 in
  repeat' (first | refine rnC ?_ | refine rnSB ?_ | refine rnG ?_ | refine rnU ?_ | ((fail_if_success (refine rnKn ?_)); refine rnP ?_ ?_ <;> (intro hq; try (have hq' := hq; simp only [hqs] at hq'))) | refine rkC ?_ | refine rkSB ?_ | refine rkF ?_ | refine rkU ?_ | ((fail_if_success (refine rkKn ?_)); refine rkP ?_ ?_ <;> (intro hq; try (have hq' := hq; simp only [hqs] at hq'))) | refine stp ?_ | refine ifT ?_ | refine ifF ?_ | (refine ifQ ?_ ?_ <;> (try (intro hn))) | (refine ifB ?_ ?_ <;> (intro hq; try (have hq' := hq; simp only [hqs] at hq'))))
  refine aws_says (says_nils (t := 3) (es := 1) rfl) ?_
  refine aws_says (says_inex (t := 3) rfl) ?_
  refine aws_loopS [0, 3, 4, 5, 6, 7, 8, 9, 10, 11, 12, 13] [] (fun (x : Nat × Nat × List Nat) => [(0, .p (.k .u64 (x.2.1 : Int))), (3, .p (.sl 1 (x.2.2.map bR) false))]) (fun _ => []) (fun x => x.2.1 < 256 ^ x.1 ∧ beF x.1 x.2.1 ++ x.2.2 = be n ∧ x.1 ≤ 8) (fun x => x.1) (8, n, []) ⟨by show n < 256 ^ 8; exact hn, List.append_nil _, Nat.le_refl _⟩ (by exact knA) (by exact knA) ?_
  rintro ⟨f, x, l⟩ β γ ⟨hx, hl, hf⟩
  dsimp only at hx hl hf ⊢
  have hll : l.length ≤ 8 := by
    have := congrArg List.length hl
    have h8 := beF_le 8 n
    rw [List.length_append] at this
    have h9 : (be n).length = (beF 8 n).length := rfl
    omega
  by_cases h0 : x = 0
  · have d1 : decide (0 < (x : Int)) = false := decide_eq_false (by omega)
    have e : numB n = [l.length] ++ l := by
      unfold numB
      rw [← hl, h0, beF_zero, List.nil_append]; rfl
    have hw : IntKind.u8.wrap (l.length : Int) = (l.length : Int) := u8_in (by omega)
    rw [e]
    clear hl
    open W6 in
    as_aux_lemma =>
      repeat' (first | refine rnC ?_ | refine rnSB ?_ | refine rnG ?_ | refine rnU ?_ | ((fail_if_success (refine rnKn ?_)); refine rnP ?_ ?_ <;> (intro hq; try (have hq' := hq; simp only [hqs] at hq'))) | refine rkC ?_ | refine rkSB ?_ | refine rkF ?_ | refine rkU ?_ | ((fail_if_success (refine rkKn ?_)); refine rkP ?_ ?_ <;> (intro hq; try (have hq' := hq; simp only [hqs] at hq'))) | refine stp ?_ | refine ifT ?_ | refine ifF ?_ | (refine ifQ ?_ ?_ <;> (try (intro hn))) | (refine ifB ?_ ?_ <;> (intro hq; try (have hq' := hq; simp only [hqs] at hq'))))
      exact rt1 rfl rfl finS_p rfl
  · have d1 : decide (0 < (x : Int)) = true := decide_eq_true (by omega)
    obtain ⟨g, rfl⟩ : ∃ g, f = g + 1 := by
      cases f with
      | zero => rw [Nat.pow_zero] at hx; omega
      | succ g => exact ⟨g, rfl⟩
    have hnx := be_is hl h0
    have hx8 : x < 18446744073709551616 := Nat.lt_of_lt_of_le hx (Nat.pow_le_pow_right (by decide) hf : 256 ^ (g + 1) ≤ 256 ^ 8)
    have hdv : x / 256 % md .u64 = x / 256 := by rw [show md .u64 = 18446744073709551616 from rfl]; omega
    have hw : IntKind.u8.wrap ((x % 256 : Nat) : Int) = ((x % 256 : Nat) : Int) := u8_in (by omega)
    clear hl
    open W6 in
    as_aux_lemma =>
      repeat' (first | refine rnC ?_ | refine rnSB ?_ | refine rnG ?_ | refine rnU ?_ | ((fail_if_success (refine rnKn ?_)); refine rnP ?_ ?_ <;> (intro hq; try (have hq' := hq; simp only [hqs] at hq'))) | refine rkC ?_ | refine rkSB ?_ | refine rkF ?_ | refine rkU ?_ | ((fail_if_success (refine rkKn ?_)); refine rkP ?_ ?_ <;> (intro hq; try (have hq' := hq; simp only [hqs] at hq'))) | refine stp ?_ | refine ifT ?_ | refine ifF ?_ | (refine ifQ ?_ ?_ <;> (try (intro hn))) | (refine ifB ?_ ?_ <;> (intro hq; try (have hq' := hq; simp only [hqs] at hq'))))
      exact ⟨(g, x / 256 % md .u64, [x % 256] ++ l), _, by dsimp only; omega, ⟨by dsimp only; rw [hdv]; rw [Nat.pow_succ] at hx; omega, by dsimp only; rw [hdv]; exact hnx, by dsimp only; omega⟩, .refl, by exact frA⟩
namespace PW3
end PW3
theorem refNum_o (n : Nat) (hn : n < 18446744073709551616) : OCall Tryz.prog 97 [.p (.k .u64 (n : Int))] (fun _ => (0, none)) (.o (.osl 17 1 1 0 (numB n).length)) (memL [(17, (2, some (.buf 5 1 ((numB n).map bR))))]) := by
  refine ocall_ofF 17 Tryz.func97 rfl (fun w0 F S0 M0 => ?_)
  open W6 in
  repeat' (first | refine rnC ?_ | refine rnSB ?_ | refine rnG ?_ | refine rnU ?_ | ((fail_if_success (refine rnKn ?_)); refine rnP ?_ ?_ <;> (intro hq; try (have hq' := hq; simp only [hqs] at hq'))) | refine rkC ?_ | refine rkSB ?_ | refine rkF ?_ | refine rkU ?_ | ((fail_if_success (refine rkKn ?_)); refine rkP ?_ ?_ <;> (intro hq; try (have hq' := hq; simp only [hqs] at hq'))) | refine stp ?_ | refine ifT ?_ | refine ifF ?_ | (refine ifQ ?_ ?_ <;> (try (intro hn))) | (refine ifB ?_ ?_ <;> (intro hq; try (have hq' := hq; simp only [hqs] at hq'))))
  refine aws_says (says_nils (t := 3) (es := 1) rfl) ?_
  refine aws_says (says_inex (t := 3) rfl) ?_
  refine aws_loopS [0, 3, 4, 5, 6, 7, 8, 9, 10, 11, 12, 13] [] (fun (x : Nat × Nat × List Nat) => [(0, .p (.k .u64 (x.2.1 : Int))), (3, .p (.sl 1 (x.2.2.map bR) false))]) (fun _ => []) (fun x => x.2.1 < 256 ^ x.1 ∧ beF x.1 x.2.1 ++ x.2.2 = be n ∧ x.1 ≤ 8) (fun x => x.1) (8, n, []) ⟨by show n < 256 ^ 8; exact hn, List.append_nil _, Nat.le_refl _⟩ (by exact knA) (by exact knA) ?_
  rintro ⟨f, x, l⟩ β γ ⟨hx, hl, hf⟩
  dsimp only at hx hl hf ⊢
  have hll : l.length ≤ 8 := by
    have := congrArg List.length hl
    have h8 := beF_le 8 n
    rw [List.length_append] at this
    have h9 : (be n).length = (beF 8 n).length := rfl
    omega
  by_cases h0 : x = 0
  · have d1 : decide (0 < (x : Int)) = false := decide_eq_false (by omega)
    have e : numB n = [l.length] ++ l := by
      unfold numB
      rw [← hl, h0, beF_zero, List.nil_append]; rfl
    have hw : IntKind.u8.wrap (l.length : Int) = (l.length : Int) := u8_in (by omega)
    rw [e]
    clear hl
    repeat (first | refine stp ?_ | fail)
    refine W6.rnC ?_
    refine W6.rnC ?_
    repeat (first | refine stp ?_ | refine ifT ?_ | refine ifF ?_ | fail)
    refine W6.rnC ?_
    refine W6.rnC ?_
    refine W6.rnC ?_
    refine rn_any (gd_n rfl rfl) rfl (lop_boB (v := l.length) rfl inferInstance inferInstance inferInstance rfl rfl rfl rfl rfl) ?_
    open W6 in
    as_aux_lemma =>
      repeat' (first | refine rnC ?_ | refine rnSB ?_ | refine rnG ?_ | refine rnU ?_ | ((fail_if_success (refine rnKn ?_)); refine rnP ?_ ?_ <;> (intro hq; try (have hq' := hq; simp only [hqs] at hq'))) | refine rkC ?_ | refine rkSB ?_ | refine rkF ?_ | refine rkU ?_ | ((fail_if_success (refine rkKn ?_)); refine rkP ?_ ?_ <;> (intro hq; try (have hq' := hq; simp only [hqs] at hq'))) | refine stp ?_ | refine ifT ?_ | refine ifF ?_ | (refine ifQ ?_ ?_ <;> (try (intro hn))) | (refine ifB ?_ ?_ <;> (intro hq; try (have hq' := hq; simp only [hqs] at hq'))))
      exact RetO.mk (ot1 rfl rfl (.one (.kosl rfl)) rfl) ⟨.buf, trivial⟩
  · have d1 : decide (0 < (x : Int)) = true := decide_eq_true (by omega)
    obtain ⟨g, rfl⟩ : ∃ g, f = g + 1 := by
      cases f with
      | zero => rw [Nat.pow_zero] at hx; omega
      | succ g => exact ⟨g, rfl⟩
    have hnx := be_is hl h0
    have hx8 : x < 18446744073709551616 := Nat.lt_of_lt_of_le hx (Nat.pow_le_pow_right (by decide) hf : 256 ^ (g + 1) ≤ 256 ^ 8)
    have hdv : x / 256 % md .u64 = x / 256 := by rw [show md .u64 = 18446744073709551616 from rfl]; omega
    have hw : IntKind.u8.wrap ((x % 256 : Nat) : Int) = ((x % 256 : Nat) : Int) := u8_in (by omega)
    clear hl
    open W6 in
    as_aux_lemma =>
      repeat' (first | refine rnC ?_ | refine rnSB ?_ | refine rnG ?_ | refine rnU ?_ | ((fail_if_success (refine rnKn ?_)); refine rnP ?_ ?_ <;> (intro hq; try (have hq' := hq; simp only [hqs] at hq'))) | refine rkC ?_ | refine rkSB ?_ | refine rkF ?_ | refine rkU ?_ | ((fail_if_success (refine rkKn ?_)); refine rkP ?_ ?_ <;> (intro hq; try (have hq' := hq; simp only [hqs] at hq'))) | refine stp ?_ | refine ifT ?_ | refine ifF ?_ | (refine ifQ ?_ ?_ <;> (try (intro hn))) | (refine ifB ?_ ?_ <;> (intro hq; try (have hq' := hq; simp only [hqs] at hq'))))
      exact ⟨(g, x / 256 % md .u64, [x % 256] ++ l), _, by dsimp only; omega, ⟨by dsimp only; rw [hdv]; rw [Nat.pow_succ] at hx; omega, by dsimp only; rw [hdv]; exact hnx, by dsimp only; omega⟩, .refl, by exact frA⟩
end Go.Proofs.YtlaeldgebecppaaGreat.Wi
namespace Go.Proofs.YtlaeldgebecppaaGreat.Wi
open Go Go.RowKit Go.Aw Go.Aw.Cart Go.Proofs.YtlaeldgebecppaaGreat.Ca
set_option linter.unusedVariables false
set_option linter.unusedSimpArgs false
set_option maxRecDepth 8000
set_option maxHeartbeats 4000000
theorem numB_le (x : Nat) : (numB x).length ≤ 9 := by
  have := beF_le 8 x
  show (beF 8 x).length + 1 ≤ 9
  omega
theorem refText_w (b : List Nat) (hb : b.length ≤ 1000000000) : PCall Tryz.prog 98 [.p (.sl 1 (b.map bR) false)] (.p (.sl 1 ((textB b).map bR) false)) := by
  refine pcall_of Tryz.func98 rfl (fun w0 F S0 M0 => ?_)
  have hw : IntKind.u64.wrap (b.length : Int) = (b.length : Int) := u64_in (by omega)
  haveI : ∀ c k : Nat, OC Tryz.prog 97 [.p (.k .u64 (b.length : Int))] [] [(c, k)] True (.o (.osl c (k + 1) 1 0 (numB b.length).length)) [(c, (k + 2, some (.buf 5 1 ((numB b.length).map bR))))] := fun c k => ⟨fun _ => (refNum_o b.length (by omega)).fresh1 c k⟩
  have hl := numB_le b.length
  unfold textB
  generalize numB b.length = N at this hl ⊢
  open W6 in
  as_aux_lemma =>
    repeat' (first | refine rnC ?_ | refine rnSB ?_ | refine rnG ?_ | refine rnU ?_ | ((fail_if_success (refine rnKn ?_)); refine rnP ?_ ?_ <;> (intro hq; try (have hq' := hq; simp only [hqs] at hq'))) | refine rkC ?_ | refine rkSB ?_ | refine rkF ?_ | refine rkU ?_ | ((fail_if_success (refine rkKn ?_)); refine rkP ?_ ?_ <;> (intro hq; try (have hq' := hq; simp only [hqs] at hq'))) | refine stp ?_ | refine ifT ?_ | refine ifF ?_ | (refine ifQ ?_ ?_ <;> (try (intro hn))) | (refine ifB ?_ ?_ <;> (intro hq; try (have hq' := hq; simp only [hqs] at hq'))))
    exact rt1 rfl rfl (.one (finC_map rfl rfl rfl rfl)) rfl
theorem refInt_w (n : Int) (hn : -1000000000 ≤ n ∧ n ≤ 1000000000) : PCall Tryz.prog 171 [.p (.i n)] (.p (.sl 1 ((intB n).map bR) false)) := by
  refine pcall_of Tryz.func171 rfl (fun w0 F S0 M0 => ?_)
  have hmd : md .u64 = 18446744073709551616 := rfl
  unfold intB zig
  by_cases h : 0 ≤ n
  · have d1 : decide (0 ≤ n) = true := decide_eq_true h
    rw [if_pos h]
    obtain ⟨m, rfl⟩ : ∃ m : Nat, n = m := ⟨n.toNat, by omega⟩
    have hw : IntKind.u64.wrap (m : Int) = (m : Int) := u64_in (by omega)
    have e : (2 * (m : Int)).toNat = 2 * m % md .u64 := by rw [hmd]; omega
    rw [e]
    haveI : PC Tryz.prog 97 [.p (.k .u64 ((2 * m % md .u64 : Nat) : Int))] True (.p (.sl 1 ((numB (2 * m % md .u64)).map bR) false)) := ⟨fun _ => refNum_w _ (by rw [hmd]; omega)⟩
    open W6 in
    as_aux_lemma =>
      repeat' (first | refine rnC ?_ | refine rnSB ?_ | refine rnG ?_ | refine rnU ?_ | ((fail_if_success (refine rnKn ?_)); refine rnP ?_ ?_ <;> (intro hq; try (have hq' := hq; simp only [hqs] at hq'))) | refine rkC ?_ | refine rkSB ?_ | refine rkF ?_ | refine rkU ?_ | ((fail_if_success (refine rkKn ?_)); refine rkP ?_ ?_ <;> (intro hq; try (have hq' := hq; simp only [hqs] at hq'))) | refine stp ?_ | refine ifT ?_ | refine ifF ?_ | (refine ifQ ?_ ?_ <;> (try (intro hn))) | (refine ifB ?_ ?_ <;> (intro hq; try (have hq' := hq; simp only [hqs] at hq'))))
      first | exact rt1 rfl rfl finS_p rfl | exact rt1 rfl rfl (.one (finC_map rfl rfl rfl rfl)) rfl
  · have d1 : decide (0 ≤ n) = false := decide_eq_false h
    rw [if_neg h]
    obtain ⟨k, rfl⟩ : ∃ k : Nat, n = -(k : Int) - 1 := ⟨(-n - 1).toNat, by omega⟩
    have hw : IntKind.u64.wrap (0 - (-(k : Int) - 1 + 1)) = (k : Int) := by rw [show 0 - (-(k : Int) - 1 + 1) = (k : Int) by omega]; exact u64_in (by omega)
    have e : (2 * (-(-(k : Int) - 1) - 1) + 1).toNat = (2 * k % md .u64 + 1) % md .u64 := by rw [hmd]; omega
    rw [e]
    haveI : PC Tryz.prog 97 [.p (.k .u64 (((2 * k % md .u64 + 1) % md .u64 : Nat) : Int))] True (.p (.sl 1 ((numB ((2 * k % md .u64 + 1) % md .u64)).map bR) false)) := ⟨fun _ => refNum_w _ (by rw [hmd]; omega)⟩
    open W6 in
    as_aux_lemma =>
      repeat' (first | refine rnC ?_ | refine rnSB ?_ | refine rnG ?_ | refine rnU ?_ | ((fail_if_success (refine rnKn ?_)); refine rnP ?_ ?_ <;> (intro hq; try (have hq' := hq; simp only [hqs] at hq'))) | refine rkC ?_ | refine rkSB ?_ | refine rkF ?_ | refine rkU ?_ | ((fail_if_success (refine rkKn ?_)); refine rkP ?_ ?_ <;> (intro hq; try (have hq' := hq; simp only [hqs] at hq'))) | refine stp ?_ | refine ifT ?_ | refine ifF ?_ | (refine ifQ ?_ ?_ <;> (try (intro hn))) | (refine ifB ?_ ?_ <;> (intro hq; try (have hq' := hq; simp only [hqs] at hq'))))
      first | exact rt1 rfl rfl finS_p rfl | exact rt1 rfl rfl (.one (finC_map rfl rfl rfl rfl)) rfl
theorem vecB_take {v : List Int} {i : Nat} (h : i < v.length) : vecB (v.take (i + 1)) = vecB (v.take i) ++ numI (v.getD i default) := by
  unfold vecB
  rw [List.take_succ_eq_append_getElem h, List.flatMap_append, List.getD_eq_getElem?_getD, List.getElem?_eq_getElem h]
  simp
theorem vecB_le (v : List Int) : (vecB v).length ≤ 9 * v.length := by
  unfold vecB
  induction v with
  | nil => exact Nat.le_refl _
  | cons a l ih =>
    rw [List.flatMap_cons, List.length_append, List.length_cons]
    have : (numI a).length ≤ 9 := numB_le a.toNat
    omega
theorem refVec_o (v : List Int) (hv : vecOk v) : OCall Tryz.prog 170 [vV v] (fun _ => (0, none)) (.o (.osl 14 8 1 0 (vecB v).length)) (memL [(14, (9, some (.buf 5 1 ((vecB v).map bR))))]) := by
  refine ocall_ofF 14 Tryz.func170 rfl (fun w0 F S0 M0 => ?_)
  have h8 := hv.1
  open W6 in
  repeat' (first | refine rnC ?_ | refine rnSB ?_ | refine rnG ?_ | refine rnU ?_ | ((fail_if_success (refine rnKn ?_)); refine rnP ?_ ?_ <;> (intro hq; try (have hq' := hq; simp only [hqs] at hq'))) | refine rkC ?_ | refine rkSB ?_ | refine rkF ?_ | refine rkU ?_ | ((fail_if_success (refine rkKn ?_)); refine rkP ?_ ?_ <;> (intro hq; try (have hq' := hq; simp only [hqs] at hq'))) | refine stp ?_ | refine ifT ?_ | refine ifF ?_ | (refine ifQ ?_ ?_ <;> (try (intro hn))) | (refine ifB ?_ ?_ <;> (intro hq; try (have hq' := hq; simp only [hqs] at hq'))))
  refine aws_says (says_nil (t := 3) (o := 14) (es := 1) (ty := 5) rfl rfl (by decide)) ?_
  refine aws_loopS [3, 4, 5, 6, 7, 8, 9, 10, 11, 12, 13, 14] [14] (fun (x : Nat × List Nat) => [(4, .p (.i x.1)), (3, .o (.osl 14 x.1 1 0 x.2.length))]) (fun x => [(14, (x.1 + 1, some (.buf 5 1 (x.2.map bR))))]) (fun x => x.1 ≤ 8 ∧ x.2 = vecB (v.take x.1)) (fun x => 8 - x.1) (0, []) ⟨Nat.zero_le _, rfl⟩ (by exact knA) (by exact knA) ?_
  rintro ⟨i, out⟩ β γ ⟨hi, ho⟩
  dsimp only at hi ho ⊢
  have hol : out.length ≤ 72 := by
    have := vecB_le (v.take i)
    rw [← ho, List.length_take] at this; omega
  by_cases hil : i < 8
  · have d1 : decide ((i : Int) < 8) = true := decide_eq_true (by omega)
    have hix : i < v.length := by omega
    have hs := vecB_take hix
    rw [← ho, show v.getD i default = v.getD (i : Int).toNat default by rw [Int.toNat_natCast]] at hs
    have hb : 0 ≤ v.getD (i : Int).toNat default ∧ v.getD (i : Int).toNat default < 18446744073709551616 := by
      rw [Int.toNat_natCast, List.getD_eq_getElem?_getD, List.getElem?_eq_getElem hix]; exact hv.2 _ (List.getElem_mem _)
    have cN := refNum_w (v.getD (i : Int).toNat default).toNat (by omega)
    rw [Int.toNat_of_nonneg hb.1] at cN
    have hnl : (numI (v.getD (i : Int).toNat default)).length ≤ 9 := numB_le _
    haveI : PC Tryz.prog 97 [.p (.k .u64 (v.getD (i : Int).toNat default))] True (.p (.sl 1 ((numI (v.getD (i : Int).toNat default)).map bR) false)) := ⟨fun _ => cN⟩
    generalize numI (v.getD (i : Int).toNat default) = N at this hs hnl
    clear ho cN
    open W6 in
    as_aux_lemma =>
      repeat' (first | refine rnC ?_ | refine rnSB ?_ | refine rnG ?_ | refine rnU ?_ | ((fail_if_success (refine rnKn ?_)); refine rnP ?_ ?_ <;> (intro hq; try (have hq' := hq; simp only [hqs] at hq'))) | refine rkC ?_ | refine rkSB ?_ | refine rkF ?_ | refine rkU ?_ | ((fail_if_success (refine rkKn ?_)); refine rkP ?_ ?_ <;> (intro hq; try (have hq' := hq; simp only [hqs] at hq'))) | refine stp ?_ | refine ifT ?_ | refine ifF ?_ | (refine ifQ ?_ ?_ <;> (try (intro hn))) | (refine ifB ?_ ?_ <;> (intro hq; try (have hq' := hq; simp only [hqs] at hq'))))
      exact ⟨(i + 1, out ++ N), _, by dsimp only; omega, ⟨by dsimp only; omega, hs.symm⟩, .refl, by exact frA⟩
  · have d1 : decide ((i : Int) < 8) = false := decide_eq_false (by omega)
    obtain rfl : i = 8 := by omega
    rw [List.take_of_length_le (by omega)] at ho
    rw [← ho]
    clear ho
    open W6 in
    as_aux_lemma =>
      repeat' (first | refine rnC ?_ | refine rnSB ?_ | refine rnG ?_ | refine rnU ?_ | ((fail_if_success (refine rnKn ?_)); refine rnP ?_ ?_ <;> (intro hq; try (have hq' := hq; simp only [hqs] at hq'))) | refine rkC ?_ | refine rkSB ?_ | refine rkF ?_ | refine rkU ?_ | ((fail_if_success (refine rkKn ?_)); refine rkP ?_ ?_ <;> (intro hq; try (have hq' := hq; simp only [hqs] at hq'))) | refine stp ?_ | refine ifT ?_ | refine ifF ?_ | (refine ifQ ?_ ?_ <;> (try (intro hn))) | (refine ifB ?_ ?_ <;> (intro hq; try (have hq' := hq; simp only [hqs] at hq'))))
      exact RetO.mk (ot1 rfl rfl (.one (.kosl rfl)) rfl) ⟨.buf, trivial⟩
end Go.Proofs.YtlaeldgebecppaaGreat.Wi
