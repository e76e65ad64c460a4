/- buckets: their texts, the leaves that have carts, and those that are unlike -/
import Derived.Test.YtlaeldgebecppaaGreatPB31
import Derived.Test.YtlaeldgebecppaaGreatPB32
namespace Go.Proofs.YtlaeldgebecppaaGreat.Wi
open Go Go.RowKit Go.Aw Go.Aw.Cart Go.Proofs.YtlaeldgebecppaaGreat.Ca Go.Proofs.YtlaeldgebecppaaGreat.Rg
set_option linter.unusedVariables false
set_option linter.unusedSimpArgs false
set_option maxRecDepth 8000
set_option maxHeartbeats 4000000
open B1
theorem kok_nil : KOk [] := ⟨by decide, .nil, fun e h => (by cases h), fun e h => (by cases h)⟩
theorem kok_filter {l : List Kd} (p : Kd → Bool) (h : KOk l) : KOk (l.filter p) :=
  ⟨Nat.le_trans (List.length_filter_le _ _) h.few, h.up.sublist List.filter_sublist, fun e he => h.key e (List.mem_filter.1 he).1, fun e he => h.cart e (List.mem_filter.1 he).1⟩
theorem bkts_ok (l : List Kd) (part : Int) (j : Nat) : KOk ((bktsF l part).getD j []) := by
  unfold bktsF
  by_cases hr : keysF l = true
  · rw [if_pos hr]
    by_cases hj : j < 16
    · rw [bkF_get _ _ hj]
      exact kok_filter _ (kok_filter _ (keys_iff.1 hr))
    · rw [List.getD_eq_getElem?_getD, List.getElem?_eq_none (by rw [bkF_len]; omega)]; exact kok_nil
  · rw [if_neg hr, List.getD_eq_getElem?_getD, List.getElem?_replicate]
    split <;> exact kok_nil
def txsF (l : List Kd) (part : Int) : List (List Nat) := (bktsF l part).map listB
theorem txsF_len (l : List Kd) (part : Int) : (txsF l part).length = 16 := by rw [txsF, List.length_map]; exact bkts_len l part
/-- a list, and the buckets of a part of it, are no more than programs can hold -/
structure LIn (l : List Kd) : Prop where
  len : l.length ≤ 100000
  kd : ∀ k ∈ l, KdI k
  few : ∀ k ∈ l, k.2.2.length ≤ 1000000000
theorem LIn.w {l : List Kd} (h : LIn l) (part : Int) (ex : Bool) : PC Tryz.prog 61 [.p (.sl 10 (l.map kR) ex), .p (.i part)] True (.a ((bktsF l part).map fun b => .p (.sl 10 (b.map kR) false))) := ⟨fun _ => buckets_w l ex part h.len h.kd h.few⟩
theorem LIn.b {l : List Kd} (h : LIn l) (part : Int) (j : Nat) : PC Tryz.prog 28 [.p (.sl 10 (((bktsF l part).getD j []).map kR) false)] True (.tup [.one (.p (.sl 1 ((listB ((bktsF l part).getD j [])).map bR) false)), .one (.p (.i 0))]) :=
  ⟨fun _ => writeAll_ok _ false (keys_iff.2 (bkts_ok l part j)) fun k hk => h.kd k (bk_sub k hk)⟩
theorem take_put {X : List (List Kd)} {i : Nat} (h : i < X.length) (hX : X.length = 16) : ((X.take i).map listB ++ List.replicate (16 - i) []).set i (listB (X.getD i [])) = (X.take (i + 1)).map listB ++ List.replicate (16 - (i + 1)) [] := by
  have h1 : ((X.take i).map listB).length = i := by rw [List.length_map, List.length_take]; omega
  rw [List.set_append_right _ _ (by omega), h1, Nat.sub_self, show 16 - i = (16 - (i + 1)) + 1 by omega, List.replicate_succ, List.set_cons_zero]
  rw [List.take_succ_eq_append_getElem h, List.map_append, List.append_assoc, List.getD_eq_getElem?_getD, List.getElem?_eq_getElem h]; rfl
theorem texts_w (l : List Kd) (ex : Bool) (part : Int) (h : LIn l) : PCall Tryz.prog 14 [.p (.sl 10 (l.map kR) ex), .p (.i part)] (.a ((txsF l part).map fun b => .p (.sl 1 (b.map bR) false))) := by
  refine pcall_of Tryz.func14 rfl (fun w0 F S0 M0 => ?_)
  haveI hw := h.w part ex
  have hX := bkts_len l part
  have hb : ∀ j : Nat, PC Tryz.prog 28 [.p (.sl 10 (((bktsF l part).getD (j : Int).toNat default).map kR) false)] True (.tup [.one (.p (.sl 1 ((listB ((bktsF l part).getD (j : Int).toNat default)).map bR) false)), .one (.p (.i 0))]) := fun j => h.b part _
  unfold txsF
  obtain ⟨X, hXX⟩ : ∃ X, X = bktsF l part := ⟨_, rfl⟩
  rw [← hXX] at hw hX hb ⊢
  clear hXX
  repeat' (first | refine rnC ?_ | refine rnSB ?_ | refine rnG ?_ | refine rnU ?_ | ((fail_if_success (refine rnKn ?_)); refine rnP ?_ ?_ <;> (intro hq; try (have hq' := hq; simp only [hqs] at hq'))) | refine rkC ?_ | refine rkSB ?_ | refine rkF ?_ | refine rkU ?_ | ((fail_if_success (refine rkKn ?_)); refine rkP ?_ ?_ <;> (intro hq; try (have hq' := hq; simp only [hqs] at hq'))) | refine stp ?_ | refine ifT ?_ | refine ifF ?_ | (refine ifQ ?_ ?_ <;> (try (intro hn))) | (refine ifB ?_ ?_ <;> (intro hq; try (have hq' := hq; simp only [hqs] at hq'))))
  refine aws_says (says_arr0 (o := 5) (k := 16) (es := 1) (tyB := 0) rfl (by decide)) ?_
  refine aws_says (says_arr1 (o := 5) (L := List.replicate 16 []) rfl) ?_
  refine aws_loopS [6, 7, 11, 12, 13, 14, 15, 16, 17, 18, 19, 20, 21, 22] [5] (fun (x : Nat × List (List Nat)) => [(11, .p (.i x.1))]) (fun x => [(5, (1, some (.box 30 (x.2.map fun b => .p (.sl 1 (b.map bR) false)))))]) (fun x => x.1 ≤ 16 ∧ x.2 = (X.take x.1).map listB ++ List.replicate (16 - x.1) []) (fun x => 16 - x.1) (0, List.replicate 16 []) ⟨Nat.zero_le _, rfl⟩ (by exact knA) (by exact knA) ?_
  rintro ⟨i, Y⟩ β γ ⟨hi, hY⟩
  dsimp only at hi hY ⊢
  have hYl : Y.length = 16 := by rw [hY, List.length_append, List.length_map, List.length_take, List.length_replicate]; omega
  by_cases hil : i < 16
  · have d1 : decide ((i : Int) < 16) = true := decide_eq_true (by omega)
    haveI := hb i
    have hput := take_put (X := X) (by omega : i < X.length) hX
    rw [← hY] at hput
    as_aux_lemma =>
      repeat' (first | refine rnC ?_ | refine rnSB ?_ | refine rnG ?_ | refine rnU ?_ | ((fail_if_success (refine rnKn ?_)); refine rnP ?_ ?_ <;> (intro hq; try (have hq' := hq; simp only [hqs] at hq'))) | refine rkC ?_ | refine rkSB ?_ | refine rkF ?_ | refine rkU ?_ | ((fail_if_success (refine rkKn ?_)); refine rkP ?_ ?_ <;> (intro hq; try (have hq' := hq; simp only [hqs] at hq'))) | refine stp ?_ | refine ifT ?_ | refine ifF ?_ | (refine ifQ ?_ ?_ <;> (try (intro hn))) | (refine ifB ?_ ?_ <;> (intro hq; try (have hq' := hq; simp only [hqs] at hq'))))
      exact ⟨(i + 1, Y.set (i : Int).toNat (listB (X.getD (i : Int).toNat default))), _, by dsimp only; omega, ⟨by dsimp only; omega, by dsimp only; rw [Int.toNat_natCast]; exact hput⟩, .refl, by exact frA⟩
  · have d1 : decide ((i : Int) < 16) = false := decide_eq_false (by omega)
    obtain rfl : i = 16 := by omega
    rw [show (16 : Nat) - 16 = 0 from rfl, List.replicate_zero, List.append_nil, List.take_of_length_le (by omega)] at hY
    rw [← hY]
    as_aux_lemma =>
      repeat' (first | refine rnC ?_ | refine rnSB ?_ | refine rnG ?_ | refine rnU ?_ | ((fail_if_success (refine rnKn ?_)); refine rnP ?_ ?_ <;> (intro hq; try (have hq' := hq; simp only [hqs] at hq'))) | refine rkC ?_ | refine rkSB ?_ | refine rkF ?_ | refine rkU ?_ | ((fail_if_success (refine rkKn ?_)); refine rkP ?_ ?_ <;> (intro hq; try (have hq' := hq; simp only [hqs] at hq'))) | refine stp ?_ | refine ifT ?_ | refine ifF ?_ | (refine ifQ ?_ ?_ <;> (try (intro hn))) | (refine ifB ?_ ?_ <;> (intro hq; try (have hq' := hq; simp only [hqs] at hq'))))
      exact rc1 rfl rfl rfl rfl rfl (by rw [List.length_map]; exact hYl) finL_map rfl
/-- are bytes equal -/
theorem beq_w (a b : List Nat) (ex ey : Bool) (ha : okB a) (hb : okB b) : PCall Tryz.prog 63 [.p (.sl 1 (a.map bR) ex), .p (.sl 1 (b.map bR) ey)] (.p (.b (decide (a = b)))) := by
  refine pcall_of Tryz.func63 rfl (fun w0 F S0 M0 => ?_)
  as_aux_lemma =>
    repeat' (first | refine rnC ?_ | refine rnSB ?_ | refine rnG ?_ | refine rnU ?_ | ((fail_if_success (refine rnKn ?_)); refine rnP ?_ ?_ <;> (intro hq; try (have hq' := hq; simp only [hqs] at hq'))) | refine rkC ?_ | refine rkSB ?_ | refine rkF ?_ | refine rkU ?_ | ((fail_if_success (refine rkKn ?_)); refine rkP ?_ ?_ <;> (intro hq; try (have hq' := hq; simp only [hqs] at hq'))) | refine stp ?_ | refine ifT ?_ | refine ifF ?_ | (refine ifQ ?_ ?_ <;> (try (intro hn))) | (refine ifB ?_ ?_ <;> (intro hq; try (have hq' := hq; simp only [hqs] at hq'))))
    exact rt1 rfl rfl finS_p rfl
instance beq_i {a b : List Nat} {ex ey : Bool} : PC Tryz.prog 63 [.p (.sl 1 (a.map bR) ex), .p (.sl 1 (b.map bR) ey)] (okB a ∧ okB b) (.p (.b (decide (a = b)))) := ⟨fun h => beq_w a b ex ey h.1 h.2⟩
/-- a bucket -/
def ofF' (l : List Kd) (part leaf : Int) : List Kd := if 0 ≤ leaf ∧ leaf < 16 then (bktsF l part).getD leaf.toNat default else []
theorem of_w (l : List Kd) (ex : Bool) (part leaf : Int) (h : LIn l) : PCall Tryz.prog 16 [.p (.sl 10 (l.map kR) ex), .p (.i part), .p (.i leaf)] (.p (.sl 10 ((ofF' l part leaf).map kR) false)) := by
  refine pcall_of Tryz.func16 rfl (fun w0 F S0 M0 => ?_)
  haveI hw := h.w part ex
  have hX := bkts_len l part
  unfold ofF'
  by_cases h0 : leaf < 0
  · have d1 : decide (leaf < 0) = true := decide_eq_true h0
    rw [if_neg (by omega)]
    as_aux_lemma =>
      repeat' (first | refine rnC ?_ | refine rnSB ?_ | refine rnG ?_ | refine rnU ?_ | ((fail_if_success (refine rnKn ?_)); refine rnP ?_ ?_ <;> (intro hq; try (have hq' := hq; simp only [hqs] at hq'))) | refine rkC ?_ | refine rkSB ?_ | refine rkF ?_ | refine rkU ?_ | ((fail_if_success (refine rkKn ?_)); refine rkP ?_ ?_ <;> (intro hq; try (have hq' := hq; simp only [hqs] at hq'))) | refine stp ?_ | refine aws_draws [] mixed (by kernel_rfl) ?_ | refine ifT ?_ | refine ifF ?_ | (refine ifQ ?_ ?_ <;> (try (intro hn))) | (refine ifB ?_ ?_ <;> (intro hq; try (have hq' := hq; simp only [hqs] at hq'))))
      exact rt1 rfl rfl (.one .nil) rfl
  · have d1 : decide (leaf < 0) = false := decide_eq_false h0
    by_cases h1 : 16 ≤ leaf
    · have d2 : decide (16 ≤ leaf) = true := decide_eq_true h1
      rw [if_neg (by omega)]
      as_aux_lemma =>
        repeat' (first | refine rnC ?_ | refine rnSB ?_ | refine rnG ?_ | refine rnU ?_ | ((fail_if_success (refine rnKn ?_)); refine rnP ?_ ?_ <;> (intro hq; try (have hq' := hq; simp only [hqs] at hq'))) | refine rkC ?_ | refine rkSB ?_ | refine rkF ?_ | refine rkU ?_ | ((fail_if_success (refine rkKn ?_)); refine rkP ?_ ?_ <;> (intro hq; try (have hq' := hq; simp only [hqs] at hq'))) | refine stp ?_ | refine aws_draws [] mixed (by kernel_rfl) ?_ | refine ifT ?_ | refine ifF ?_ | (refine ifQ ?_ ?_ <;> (try (intro hn))) | (refine ifB ?_ ?_ <;> (intro hq; try (have hq' := hq; simp only [hqs] at hq'))))
        exact rt1 rfl rfl (.one .nil) rfl
    · have d2 : decide (16 ≤ leaf) = false := decide_eq_false h1
      rw [if_pos (by omega)]
      have hl16 : leaf < 16 := by omega
      have hl0 : 0 ≤ leaf := by omega
      generalize bktsF l part = X at hw hX ⊢
      have hlX : leaf < X.length := by omega
      as_aux_lemma =>
        repeat' (first | refine rnC ?_ | refine rnSB ?_ | refine rnG ?_ | refine rnU ?_ | ((fail_if_success (refine rnKn ?_)); refine rnP ?_ ?_ <;> (intro hq; try (have hq' := hq; simp only [hqs] at hq'))) | refine rkC ?_ | refine rkSB ?_ | refine rkF ?_ | refine rkU ?_ | ((fail_if_success (refine rkKn ?_)); refine rkP ?_ ?_ <;> (intro hq; try (have hq' := hq; simp only [hqs] at hq'))) | refine stp ?_ | refine aws_draws [] mixed (by kernel_rfl) ?_ | refine ifT ?_ | refine ifF ?_ | (refine ifQ ?_ ?_ <;> (try (intro hn))) | (refine ifB ?_ ?_ <;> (intro hq; try (have hq' := hq; simp only [hqs] at hq'))))
        exact rt1 rfl rfl finS_p rfl
theorem text_w (l : List Kd) (ex : Bool) (part leaf : Int) (h : LIn l) : PCall Tryz.prog 18 [.p (.sl 10 (l.map kR) ex), .p (.i part), .p (.i leaf)] (.p (.sl 1 ((listB (ofF' l part leaf)).map bR) false)) := by
  refine pcall_of Tryz.func18 rfl (fun w0 F S0 M0 => ?_)
  haveI : PC Tryz.prog 16 [.p (.sl 10 (l.map kR) ex), .p (.i part), .p (.i leaf)] True (.p (.sl 10 ((ofF' l part leaf).map kR) false)) := ⟨fun _ => of_w l ex part leaf h⟩
  have hk : KOk (ofF' l part leaf) ∧ ∀ k ∈ ofF' l part leaf, KdI k := by
    unfold ofF'
    split
    · exact ⟨bkts_ok l part _, fun k hk => h.kd k (bk_sub k hk)⟩
    · exact ⟨kok_nil, fun k hk => by cases hk⟩
  have c1 := writeAll_ok (ofF' l part leaf) false (keys_iff.2 hk.1) hk.2
  generalize ofF' l part leaf = B at this c1 ⊢
  haveI : PC Tryz.prog 28 [.p (.sl 10 (B.map kR) false)] True (.tup [.one (.p (.sl 1 ((listB B).map bR) false)), .one (.p (.i 0))]) := ⟨fun _ => c1⟩
  as_aux_lemma =>
    repeat' (first | refine rnC ?_ | refine rnSB ?_ | refine rnG ?_ | refine rnU ?_ | ((fail_if_success (refine rnKn ?_)); refine rnP ?_ ?_ <;> (intro hq; try (have hq' := hq; simp only [hqs] at hq'))) | refine rkC ?_ | refine rkSB ?_ | refine rkF ?_ | refine rkU ?_ | ((fail_if_success (refine rkKn ?_)); refine rkP ?_ ?_ <;> (intro hq; try (have hq' := hq; simp only [hqs] at hq'))) | refine stp ?_ | refine ifT ?_ | refine ifF ?_ | (refine ifQ ?_ ?_ <;> (try (intro hn))) | (refine ifB ?_ ?_ <;> (intro hq; try (have hq' := hq; simp only [hqs] at hq'))))
    exact rt1 rfl rfl finS_p rfl
/-- the leaves of which something is so -/
def lvTo (p : Nat → Bool) : Nat → List Int
  | 0 => []
  | k + 1 => if p k = true then lvTo p k ++ [(k : Int)] else lvTo p k
theorem lvTo_len (p : Nat → Bool) : ∀ k, (lvTo p k).length ≤ k
  | 0 => Nat.le_refl _
  | k + 1 => by
    have := lvTo_len p k
    rw [lvTo]
    split
    · rw [List.length_append, List.length_singleton]; omega
    · omega
theorem leaves_w (l : List Kd) (ex : Bool) (part : Int) (h : LIn l) : PCall Tryz.prog 21 [.p (.sl 10 (l.map kR) ex), .p (.i part)] (.p (.sl 1 ((lvTo (fun j => decide (0 < ((bktsF l part).getD j default).length)) 16).map fun n => [PVal.i n]) false)) := by
  refine pcall_of Tryz.func21 rfl (fun w0 F S0 M0 => ?_)
  haveI hw := h.w part ex
  have hX := bkts_len l part
  generalize bktsF l part = X at hw hX ⊢
  obtain ⟨A, hA⟩ : ∃ A, A = lvTo (fun j => decide (0 < (X.getD j default).length)) 16 := ⟨_, rfl⟩
  rw [← hA]
  repeat' (first | refine rnC ?_ | refine rnSB ?_ | refine rnG ?_ | refine rnU ?_ | ((fail_if_success (refine rnKn ?_)); refine rnP ?_ ?_ <;> (intro hq; try (have hq' := hq; simp only [hqs] at hq'))) | refine rkC ?_ | refine rkSB ?_ | refine rkF ?_ | refine rkU ?_ | ((fail_if_success (refine rkKn ?_)); refine rkP ?_ ?_ <;> (intro hq; try (have hq' := hq; simp only [hqs] at hq'))) | refine stp ?_ | refine ifT ?_ | refine ifF ?_ | (refine ifQ ?_ ?_ <;> (try (intro hn))) | (refine ifB ?_ ?_ <;> (intro hq; try (have hq' := hq; simp only [hqs] at hq'))))
  refine aws_says (says_nil (t := 5) (o := 21) (es := 1) (ty := 3) rfl rfl (by decide)) ?_
  refine aws_loopS [5, 6, 7, 11, 12, 13, 14, 15, 16, 17, 18, 19, 20, 21, 22] [21] (fun (x : Nat × Nat × List Int) => [(11, .p (.i x.1)), (5, .o (.osl 21 x.2.1 1 0 x.2.2.length))]) (fun x => [(21, (x.2.1 + 1, some (.buf 3 1 (x.2.2.map fun n => [PVal.i n]))))]) (fun x => x.1 ≤ 16 ∧ x.2.2 = lvTo (fun j => decide (0 < (X.getD j default).length)) x.1) (fun x => 16 - x.1) (0, 0, []) ⟨Nat.zero_le _, rfl⟩ (by exact knA) (by exact knA) ?_
  rintro ⟨i, g, out⟩ β γ ⟨hi, hout⟩
  dsimp only at hi hout ⊢
  have hol : out.length ≤ 16 := by rw [hout]; exact Nat.le_trans (lvTo_len _ _) hi
  by_cases hil : i < 16
  · have d1 : decide ((i : Int) < 16) = true := decide_eq_true (by omega)
    by_cases hp : 0 < (X.getD i default).length
    · have d2 : decide (0 < ((X.getD (i : Int).toNat default).length : Int)) = true := decide_eq_true (by rw [Int.toNat_natCast]; omega)
      have hs : lvTo (fun j => decide (0 < (X.getD j default).length)) (i + 1) = lvTo (fun j => decide (0 < (X.getD j default).length)) i ++ [(i : Int)] := by rw [lvTo, if_pos (decide_eq_true hp)]
      as_aux_lemma =>
        repeat' (first | refine rnC ?_ | refine rnSB ?_ | refine rnG ?_ | refine rnU ?_ | ((fail_if_success (refine rnKn ?_)); refine rnP ?_ ?_ <;> (intro hq; try (have hq' := hq; simp only [hqs] at hq'))) | refine rkC ?_ | refine rkSB ?_ | refine rkF ?_ | refine rkU ?_ | ((fail_if_success (refine rkKn ?_)); refine rkP ?_ ?_ <;> (intro hq; try (have hq' := hq; simp only [hqs] at hq'))) | refine stp ?_ | refine ifT ?_ | refine ifF ?_ | (refine ifQ ?_ ?_ <;> (try (intro hn))) | (refine ifB ?_ ?_ <;> (intro hq; try (have hq' := hq; simp only [hqs] at hq'))))
        exact ⟨(i + 1, g + 1, out ++ [(i : Int)]), _, by dsimp only; omega, ⟨by dsimp only; omega, by dsimp only; rw [hs, hout]⟩, .refl, by exact frA⟩
    · have d2 : decide (0 < ((X.getD (i : Int).toNat default).length : Int)) = false := decide_eq_false (by rw [Int.toNat_natCast]; omega)
      have hs : lvTo (fun j => decide (0 < (X.getD j default).length)) (i + 1) = lvTo (fun j => decide (0 < (X.getD j default).length)) i := by rw [lvTo, if_neg (by simpa using hp)]
      as_aux_lemma =>
        repeat' (first | refine rnC ?_ | refine rnSB ?_ | refine rnG ?_ | refine rnU ?_ | ((fail_if_success (refine rnKn ?_)); refine rnP ?_ ?_ <;> (intro hq; try (have hq' := hq; simp only [hqs] at hq'))) | refine rkC ?_ | refine rkSB ?_ | refine rkF ?_ | refine rkU ?_ | ((fail_if_success (refine rkKn ?_)); refine rkP ?_ ?_ <;> (intro hq; try (have hq' := hq; simp only [hqs] at hq'))) | refine stp ?_ | refine ifT ?_ | refine ifF ?_ | (refine ifQ ?_ ?_ <;> (try (intro hn))) | (refine ifB ?_ ?_ <;> (intro hq; try (have hq' := hq; simp only [hqs] at hq'))))
        exact ⟨(i + 1, g, out), _, by dsimp only; omega, ⟨by dsimp only; omega, by dsimp only; rw [hs, hout]⟩, .refl, by exact frA⟩
  · have d1 : decide ((i : Int) < 16) = false := decide_eq_false (by omega)
    obtain rfl : i = 16 := by omega
    rw [hA, ← hout]
    as_aux_lemma =>
      repeat' (first | refine rnC ?_ | refine rnSB ?_ | refine rnG ?_ | refine rnU ?_ | ((fail_if_success (refine rnKn ?_)); refine rnP ?_ ?_ <;> (intro hq; try (have hq' := hq; simp only [hqs] at hq'))) | refine rkC ?_ | refine rkSB ?_ | refine rkF ?_ | refine rkU ?_ | ((fail_if_success (refine rkKn ?_)); refine rkP ?_ ?_ <;> (intro hq; try (have hq' := hq; simp only [hqs] at hq'))) | refine stp ?_ | refine ifT ?_ | refine ifF ?_ | (refine ifQ ?_ ?_ <;> (try (intro hn))) | (refine ifB ?_ ?_ <;> (intro hq; try (have hq' := hq; simp only [hqs] at hq'))))
      exact rt1 rfl rfl (.one (finC_map rfl rfl rfl rfl)) rfl
def unlF (a b : List Kd) (part : Int) : List Int := lvTo (fun j => !decide ((txsF a part).getD j default = (txsF b part).getD j default)) 16
theorem txs_ok (l : List Kd) (part : Int) (j : Nat) (h : LIn l) : okB ((txsF l part).getD j default) := by
  have hs := fun e => bk_sub (part := part) (l := l) (j := j) e
  unfold txsF
  rw [List.getD_eq_getElem?_getD] at hs ⊢
  rw [List.getElem?_map]
  cases hB : (bktsF l part)[j]? with
  | none => exact fun c hc => by cases hc
  | some B =>
    rw [hB] at hs
    exact listB_ok fun k hk => (h.kd k (hs k hk)).key
theorem unlike_w (a b : List Kd) (ex ey : Bool) (part : Int) (ha : LIn a) (hb : LIn b) : PCall Tryz.prog 22 [.p (.sl 10 (a.map kR) ex), .p (.sl 10 (b.map kR) ey), .p (.i part)] (.p (.sl 1 ((unlF a b part).map fun n => [PVal.i n]) false)) := by
  refine pcall_of Tryz.func22 rfl (fun w0 F S0 M0 => ?_)
  have c1 := texts_w a ex part ha
  have c2 := texts_w b ey part hb
  have l1 := txsF_len a part
  have l2 := txsF_len b part
  have k1 := fun j => txs_ok a part j ha
  have k2 := fun j => txs_ok b part j hb
  unfold unlF
  generalize txsF a part = X at c1 l1 k1 ⊢
  generalize txsF b part = Y at c2 l2 k2 ⊢
  haveI : PC Tryz.prog 14 [.p (.sl 10 (a.map kR) ex), .p (.i part)] True (.a (X.map fun b => .p (.sl 1 (b.map bR) false))) := ⟨fun _ => c1⟩
  haveI : PC Tryz.prog 14 [.p (.sl 10 (b.map kR) ey), .p (.i part)] True (.a (Y.map fun b => .p (.sl 1 (b.map bR) false))) := ⟨fun _ => c2⟩
  obtain ⟨A, hA⟩ : ∃ A, A = lvTo (fun j => !decide (X.getD j default = Y.getD j default)) 16 := ⟨_, rfl⟩
  rw [← hA]
  repeat' (first | refine rnC ?_ | refine rnSB ?_ | refine rnG ?_ | refine rnU ?_ | ((fail_if_success (refine rnKn ?_)); refine rnP ?_ ?_ <;> (intro hq; try (have hq' := hq; simp only [hqs] at hq'))) | refine rkC ?_ | refine rkSB ?_ | refine rkF ?_ | refine rkU ?_ | ((fail_if_success (refine rkKn ?_)); refine rkP ?_ ?_ <;> (intro hq; try (have hq' := hq; simp only [hqs] at hq'))) | refine stp ?_ | refine aws_draws [] mixed (by kernel_rfl) ?_ | refine ifT ?_ | refine ifF ?_ | (refine ifQ ?_ ?_ <;> (try (intro hn))) | (refine ifB ?_ ?_ <;> (intro hq; try (have hq' := hq; simp only [hqs] at hq'))))
  refine aws_says (says_nil (t := 7) (o := 31) (es := 1) (ty := 3) rfl rfl (by decide)) ?_
  refine aws_loopS [7, 10, 17, 18, 19, 20, 21, 22, 23, 24, 25, 26, 27, 28, 29, 30, 31, 32] [31] (fun (x : Nat × Nat × List Int) => [(17, .p (.i x.1)), (7, .o (.osl 31 x.2.1 1 0 x.2.2.length))]) (fun x => [(31, (x.2.1 + 1, some (.buf 3 1 (x.2.2.map fun n => [PVal.i n]))))]) (fun x => x.1 ≤ 16 ∧ x.2.2 = lvTo (fun j => !decide (X.getD j default = Y.getD j default)) x.1) (fun x => 16 - x.1) (0, 0, []) ⟨Nat.zero_le _, rfl⟩ (by exact knA) (by exact knA) ?_
  rintro ⟨i, g, out⟩ β γ ⟨hi, hout⟩
  dsimp only at hi hout ⊢
  have hol : out.length ≤ 16 := by rw [hout]; exact Nat.le_trans (lvTo_len _ _) hi
  by_cases hil : i < 16
  · have d1 : decide ((i : Int) < 16) = true := decide_eq_true (by omega)
    have q1 := k1 (i : Int).toNat
    have q2 := k2 (i : Int).toNat
    by_cases hp : X.getD i default = Y.getD i default
    · have d2 : (!decide (X.getD (i : Int).toNat default = Y.getD (i : Int).toNat default)) = false := by rw [Int.toNat_natCast, decide_eq_true hp]; rfl
      have hs : lvTo (fun j => !decide (X.getD j default = Y.getD j default)) (i + 1) = lvTo (fun j => !decide (X.getD j default = Y.getD j default)) i := by rw [lvTo, if_neg (by rw [decide_eq_true hp]; simp)]
      as_aux_lemma =>
        repeat' (first | refine rnC ?_ | refine rnSB ?_ | refine rnG ?_ | refine rnU ?_ | ((fail_if_success (refine rnKn ?_)); refine rnP ?_ ?_ <;> (intro hq; try (have hq' := hq; simp only [hqs] at hq'))) | refine rkC ?_ | refine rkSB ?_ | refine rkF ?_ | refine rkU ?_ | ((fail_if_success (refine rkKn ?_)); refine rkP ?_ ?_ <;> (intro hq; try (have hq' := hq; simp only [hqs] at hq'))) | refine stp ?_ | refine aws_draws [] mixed (by kernel_rfl) ?_ | refine ifT ?_ | refine ifF ?_ | (refine ifQ ?_ ?_ <;> (try (intro hn))) | (refine ifB ?_ ?_ <;> (intro hq; try (have hq' := hq; simp only [hqs] at hq'))))
        exact ⟨(i + 1, g, out), _, by dsimp only; omega, ⟨by dsimp only; omega, by dsimp only; rw [hs, hout]⟩, .refl, by exact frA⟩
    · have d2 : (!decide (X.getD (i : Int).toNat default = Y.getD (i : Int).toNat default)) = true := by rw [Int.toNat_natCast, decide_eq_false hp]; rfl
      have hs : lvTo (fun j => !decide (X.getD j default = Y.getD j default)) (i + 1) = lvTo (fun j => !decide (X.getD j default = Y.getD j default)) i ++ [(i : Int)] := by rw [lvTo, if_pos (by rw [decide_eq_false hp]; rfl)]
      as_aux_lemma =>
        repeat' (first | refine rnC ?_ | refine rnSB ?_ | refine rnG ?_ | refine rnU ?_ | ((fail_if_success (refine rnKn ?_)); refine rnP ?_ ?_ <;> (intro hq; try (have hq' := hq; simp only [hqs] at hq'))) | refine rkC ?_ | refine rkSB ?_ | refine rkF ?_ | refine rkU ?_ | ((fail_if_success (refine rkKn ?_)); refine rkP ?_ ?_ <;> (intro hq; try (have hq' := hq; simp only [hqs] at hq'))) | refine stp ?_ | refine aws_draws [] mixed (by kernel_rfl) ?_ | refine ifT ?_ | refine ifF ?_ | (refine ifQ ?_ ?_ <;> (try (intro hn))) | (refine ifB ?_ ?_ <;> (intro hq; try (have hq' := hq; simp only [hqs] at hq'))))
        exact ⟨(i + 1, g + 1, out ++ [(i : Int)]), _, by dsimp only; omega, ⟨by dsimp only; omega, by dsimp only; rw [hs, hout]⟩, .refl, by exact frA⟩
  · have d1 : decide ((i : Int) < 16) = false := decide_eq_false (by omega)
    obtain rfl : i = 16 := by omega
    rw [hA, ← hout]
    as_aux_lemma =>
      repeat' (first | refine rnC ?_ | refine rnSB ?_ | refine rnG ?_ | refine rnU ?_ | ((fail_if_success (refine rnKn ?_)); refine rnP ?_ ?_ <;> (intro hq; try (have hq' := hq; simp only [hqs] at hq'))) | refine rkC ?_ | refine rkSB ?_ | refine rkF ?_ | refine rkU ?_ | ((fail_if_success (refine rkKn ?_)); refine rkP ?_ ?_ <;> (intro hq; try (have hq' := hq; simp only [hqs] at hq'))) | refine stp ?_ | refine aws_draws [] mixed (by kernel_rfl) ?_ | refine ifT ?_ | refine ifF ?_ | (refine ifQ ?_ ?_ <;> (try (intro hn))) | (refine ifB ?_ ?_ <;> (intro hq; try (have hq' := hq; simp only [hqs] at hq'))))
      exact rt1 rfl rfl (.one (finC_map rfl rfl rfl rfl)) rfl
end Go.Proofs.YtlaeldgebecppaaGreat.Wi
