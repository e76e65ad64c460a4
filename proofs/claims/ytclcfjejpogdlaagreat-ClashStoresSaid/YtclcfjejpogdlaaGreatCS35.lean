/- buckets: their texts, the leaves that have carts, and those that are unlike; the reference's reader: faults, bytes, numbers; the reference's reader: its end, small numbers, whole numbers, texts, vectors; the reference's writers; the reference's writers: whole numbers, texts, vectors; the reference's writers: carts and lists; the reference's writers: lists; the reference: texts compared; the reference, chapters 03 and 06: dots, nodes, how entries stand to each other; the reference, chapter 06: entries in order, one by one; entries and carts as the reference's; the reference, chapter 06: carts as the reference's; which are the same, which may be -/
import Derived.Test.YtclcfjejpogdlaaGreatCS33
import Derived.Test.YtclcfjejpogdlaaGreatCS34
import Derived.Test.YtclcfjejpogdlaaGreatCS25
import Derived.Test.YtclcfjejpogdlaaGreatCS24
import Derived.Test.YtclcfjejpogdlaaGreatCS22
import Derived.Test.YtclcfjejpogdlaaGreatCS27
import Derived.Test.YtclcfjejpogdlaaGreatCS28
import Derived.Test.YtclcfjejpogdlaaGreatCS16
import Derived.Test.YtclcfjejpogdlaaGreatCS10
namespace Go.Proofs.YtclcfjejpogdlaaGreat.Wi
open Go Go.RowKit Go.Aw Go.Aw.Cart Go.Proofs.YtclcfjejpogdlaaGreat.Ca Go.Proofs.YtclcfjejpogdlaaGreat.Rg
set_option linter.unusedVariables false
set_option linter.unusedSimpArgs false
set_option maxRecDepth 8000
set_option maxHeartbeats 4000000
open B1
theorem kok_nil : KOk [] := ⟨by decide, .nil, fun e h => (by cases h), fun e h => (by cases h)⟩
theorem kok_filter {l : List Kd} (p : Kd → Bool) (h : KOk l) : KOk (l.filter p) :=
  ⟨Nat.le_trans (List.length_filter_le _ _) h.few, h.up.sublist List.filter_sublist, fun e he => h.key e (List.mem_filter.1 he).1, fun e he => h.cart e (List.mem_filter.1 he).1⟩
theorem bkts_ok (l : List Kd) (part : Int) (j : Nat) : KOk ((bktsF l part).getD j []) := by
  unfold bktsF
  by_cases hr : keysF l = true
  · rw [if_pos hr]
    by_cases hj : j < 16
    · rw [bkF_get _ _ hj]
      exact kok_filter _ (kok_filter _ (keys_iff.1 hr))
    · rw [List.getD_eq_getElem?_getD, List.getElem?_eq_none (by rw [bkF_len]; omega)]; exact kok_nil
  · rw [if_neg hr, List.getD_eq_getElem?_getD, List.getElem?_replicate]
    split <;> exact kok_nil
def txsF (l : List Kd) (part : Int) : List (List Nat) := (bktsF l part).map listB
theorem txsF_len (l : List Kd) (part : Int) : (txsF l part).length = 16 := by rw [txsF, List.length_map]; exact bkts_len l part
/-- a list, and the buckets of a part of it, are no more than programs can hold -/
structure LIn (l : List Kd) : Prop where
  len : l.length ≤ 100000
  kd : ∀ k ∈ l, KdI k
  few : ∀ k ∈ l, k.2.2.length ≤ 1000000000
theorem LIn.w {l : List Kd} (h : LIn l) (part : Int) (ex : Bool) : PC Tryz.prog 81 [.p (.sl 10 (l.map kR) ex), .p (.i part)] True (.a ((bktsF l part).map fun b => .p (.sl 10 (b.map kR) false))) := ⟨fun _ => buckets_w l ex part h.len h.kd h.few⟩
theorem LIn.b {l : List Kd} (h : LIn l) (part : Int) (j : Nat) : PC Tryz.prog 82 [.p (.sl 10 (((bktsF l part).getD j []).map kR) false)] True (.tup [.one (.p (.sl 1 ((listB ((bktsF l part).getD j [])).map bR) false)), .one (.p (.i 0))]) :=
  ⟨fun _ => writeAll_ok _ false (keys_iff.2 (bkts_ok l part j)) fun k hk => h.kd k (bk_sub k hk)⟩
theorem take_put {X : List (List Kd)} {i : Nat} (h : i < X.length) (hX : X.length = 16) : ((X.take i).map listB ++ List.replicate (16 - i) []).set i (listB (X.getD i [])) = (X.take (i + 1)).map listB ++ List.replicate (16 - (i + 1)) [] := by
  have h1 : ((X.take i).map listB).length = i := by rw [List.length_map, List.length_take]; omega
  rw [List.set_append_right _ _ (by omega), h1, Nat.sub_self, show 16 - i = (16 - (i + 1)) + 1 by omega, List.replicate_succ, List.set_cons_zero]
  rw [List.take_succ_eq_append_getElem h, List.map_append, List.append_assoc, List.getD_eq_getElem?_getD, List.getElem?_eq_getElem h]; rfl
theorem texts_w (l : List Kd) (ex : Bool) (part : Int) (h : LIn l) : PCall Tryz.prog 17 [.p (.sl 10 (l.map kR) ex), .p (.i part)] (.a ((txsF l part).map fun b => .p (.sl 1 (b.map bR) false))) := by
  refine pcall_of Tryz.func17 rfl (fun w0 F S0 M0 => ?_)
  haveI hw := h.w part ex
  have hX := bkts_len l part
  have hb : ∀ j : Nat, PC Tryz.prog 82 [.p (.sl 10 (((bktsF l part).getD (j : Int).toNat default).map kR) false)] True (.tup [.one (.p (.sl 1 ((listB ((bktsF l part).getD (j : Int).toNat default)).map bR) false)), .one (.p (.i 0))]) := fun j => h.b part _
  unfold txsF
  obtain ⟨X, hXX⟩ : ∃ X, X = bktsF l part := ⟨_, rfl⟩
  rw [← hXX] at hw hX hb ⊢
  clear hXX
  repeat' (first | refine rnC ?_ | refine rnSB ?_ | refine rnG ?_ | refine rnU ?_ | ((fail_if_success (refine rnKn ?_)); refine rnP ?_ ?_ <;> (intro hq; try (have hq' := hq; simp only [hqs] at hq'))) | refine rkC ?_ | refine rkSB ?_ | refine rkF ?_ | refine rkU ?_ | ((fail_if_success (refine rkKn ?_)); refine rkP ?_ ?_ <;> (intro hq; try (have hq' := hq; simp only [hqs] at hq'))) | refine stp ?_ | refine ifT ?_ | refine ifF ?_ | (refine ifQ ?_ ?_ <;> (try (intro hn))) | (refine ifB ?_ ?_ <;> (intro hq; try (have hq' := hq; simp only [hqs] at hq'))))
  refine aws_says (says_arr0 (o := 5) (k := 16) (es := 1) (tyB := 0) rfl (by decide)) ?_
  refine aws_says (says_arr1 (o := 5) (L := List.replicate 16 []) rfl) ?_
  refine aws_loopS [6, 7, 11, 12, 13, 14, 15, 16, 17, 18, 19, 20, 21, 22] [5] (fun (x : Nat × List (List Nat)) => [(11, .p (.i x.1))]) (fun x => [(5, (1, some (.box 26 (x.2.map fun b => .p (.sl 1 (b.map bR) false)))))]) (fun x => x.1 ≤ 16 ∧ x.2 = (X.take x.1).map listB ++ List.replicate (16 - x.1) []) (fun x => 16 - x.1) (0, List.replicate 16 []) ⟨Nat.zero_le _, rfl⟩ (by exact knA) (by exact knA) ?_
  rintro ⟨i, Y⟩ β γ ⟨hi, hY⟩
  dsimp only at hi hY ⊢
  have hYl : Y.length = 16 := by rw [hY, List.length_append, List.length_map, List.length_take, List.length_replicate]; omega
  by_cases hil : i < 16
  · have d1 : decide ((i : Int) < 16) = true := decide_eq_true (by omega)
    haveI := hb i
    have hput := take_put (X := X) (by omega : i < X.length) hX
    rw [← hY] at hput
    as_aux_lemma =>
      repeat' (first | refine rnC ?_ | refine rnSB ?_ | refine rnG ?_ | refine rnU ?_ | ((fail_if_success (refine rnKn ?_)); refine rnP ?_ ?_ <;> (intro hq; try (have hq' := hq; simp only [hqs] at hq'))) | refine rkC ?_ | refine rkSB ?_ | refine rkF ?_ | refine rkU ?_ | ((fail_if_success (refine rkKn ?_)); refine rkP ?_ ?_ <;> (intro hq; try (have hq' := hq; simp only [hqs] at hq'))) | refine stp ?_ | refine ifT ?_ | refine ifF ?_ | (refine ifQ ?_ ?_ <;> (try (intro hn))) | (refine ifB ?_ ?_ <;> (intro hq; try (have hq' := hq; simp only [hqs] at hq'))))
      exact ⟨(i + 1, Y.set (i : Int).toNat (listB (X.getD (i : Int).toNat default))), _, by dsimp only; omega, ⟨by dsimp only; omega, by dsimp only; rw [Int.toNat_natCast]; exact hput⟩, .refl, by exact frA⟩
  · have d1 : decide ((i : Int) < 16) = false := decide_eq_false (by omega)
    obtain rfl : i = 16 := by omega
    rw [show (16 : Nat) - 16 = 0 from rfl, List.replicate_zero, List.append_nil, List.take_of_length_le (by omega)] at hY
    rw [← hY]
    as_aux_lemma =>
      repeat' (first | refine rnC ?_ | refine rnSB ?_ | refine rnG ?_ | refine rnU ?_ | ((fail_if_success (refine rnKn ?_)); refine rnP ?_ ?_ <;> (intro hq; try (have hq' := hq; simp only [hqs] at hq'))) | refine rkC ?_ | refine rkSB ?_ | refine rkF ?_ | refine rkU ?_ | ((fail_if_success (refine rkKn ?_)); refine rkP ?_ ?_ <;> (intro hq; try (have hq' := hq; simp only [hqs] at hq'))) | refine stp ?_ | refine ifT ?_ | refine ifF ?_ | (refine ifQ ?_ ?_ <;> (try (intro hn))) | (refine ifB ?_ ?_ <;> (intro hq; try (have hq' := hq; simp only [hqs] at hq'))))
      exact rc1 rfl rfl rfl rfl rfl (by rw [List.length_map]; exact hYl) finL_map rfl
/-- are bytes equal -/
theorem beq_w (a b : List Nat) (ex ey : Bool) (ha : okB a) (hb : okB b) : PCall Tryz.prog 91 [.p (.sl 1 (a.map bR) ex), .p (.sl 1 (b.map bR) ey)] (.p (.b (decide (a = b)))) := by
  refine pcall_of Tryz.func91 rfl (fun w0 F S0 M0 => ?_)
  as_aux_lemma =>
    repeat' (first | refine rnC ?_ | refine rnSB ?_ | refine rnG ?_ | refine rnU ?_ | ((fail_if_success (refine rnKn ?_)); refine rnP ?_ ?_ <;> (intro hq; try (have hq' := hq; simp only [hqs] at hq'))) | refine rkC ?_ | refine rkSB ?_ | refine rkF ?_ | refine rkU ?_ | ((fail_if_success (refine rkKn ?_)); refine rkP ?_ ?_ <;> (intro hq; try (have hq' := hq; simp only [hqs] at hq'))) | refine stp ?_ | refine ifT ?_ | refine ifF ?_ | (refine ifQ ?_ ?_ <;> (try (intro hn))) | (refine ifB ?_ ?_ <;> (intro hq; try (have hq' := hq; simp only [hqs] at hq'))))
    exact rt1 rfl rfl finS_p rfl
instance beq_i {a b : List Nat} {ex ey : Bool} : PC Tryz.prog 91 [.p (.sl 1 (a.map bR) ex), .p (.sl 1 (b.map bR) ey)] (okB a ∧ okB b) (.p (.b (decide (a = b)))) := ⟨fun h => beq_w a b ex ey h.1 h.2⟩
/-- the leaves of which something is so -/
def lvTo (p : Nat → Bool) : Nat → List Int
  | 0 => []
  | k + 1 => if p k = true then lvTo p k ++ [(k : Int)] else lvTo p k
theorem lvTo_len (p : Nat → Bool) : ∀ k, (lvTo p k).length ≤ k
  | 0 => Nat.le_refl _
  | k + 1 => by
    have := lvTo_len p k
    rw [lvTo]
    split
    · rw [List.length_append, List.length_singleton]; omega
    · omega
def unlF (a b : List Kd) (part : Int) : List Int := lvTo (fun j => !decide ((txsF a part).getD j default = (txsF b part).getD j default)) 16
theorem txs_ok (l : List Kd) (part : Int) (j : Nat) (h : LIn l) : okB ((txsF l part).getD j default) := by
  have hs := fun e => bk_sub (part := part) (l := l) (j := j) e
  unfold txsF
  rw [List.getD_eq_getElem?_getD] at hs ⊢
  rw [List.getElem?_map]
  cases hB : (bktsF l part)[j]? with
  | none => exact fun c hc => by cases hc
  | some B =>
    rw [hB] at hs
    exact listB_ok fun k hk => (h.kd k (hs k hk)).key
theorem unlike_w (a b : List Kd) (ex ey : Bool) (part : Int) (ha : LIn a) (hb : LIn b) : PCall Tryz.prog 22 [.p (.sl 10 (a.map kR) ex), .p (.sl 10 (b.map kR) ey), .p (.i part)] (.p (.sl 1 ((unlF a b part).map fun n => [PVal.i n]) false)) := by
  refine pcall_of Tryz.func22 rfl (fun w0 F S0 M0 => ?_)
  have c1 := texts_w a ex part ha
  have c2 := texts_w b ey part hb
  have l1 := txsF_len a part
  have l2 := txsF_len b part
  have k1 := fun j => txs_ok a part j ha
  have k2 := fun j => txs_ok b part j hb
  unfold unlF
  generalize txsF a part = X at c1 l1 k1 ⊢
  generalize txsF b part = Y at c2 l2 k2 ⊢
  haveI : PC Tryz.prog 17 [.p (.sl 10 (a.map kR) ex), .p (.i part)] True (.a (X.map fun b => .p (.sl 1 (b.map bR) false))) := ⟨fun _ => c1⟩
  haveI : PC Tryz.prog 17 [.p (.sl 10 (b.map kR) ey), .p (.i part)] True (.a (Y.map fun b => .p (.sl 1 (b.map bR) false))) := ⟨fun _ => c2⟩
  obtain ⟨A, hA⟩ : ∃ A, A = lvTo (fun j => !decide (X.getD j default = Y.getD j default)) 16 := ⟨_, rfl⟩
  rw [← hA]
  repeat' (first | refine rnC ?_ | refine rnSB ?_ | refine rnG ?_ | refine rnU ?_ | ((fail_if_success (refine rnKn ?_)); refine rnP ?_ ?_ <;> (intro hq; try (have hq' := hq; simp only [hqs] at hq'))) | refine rkC ?_ | refine rkSB ?_ | refine rkF ?_ | refine rkU ?_ | ((fail_if_success (refine rkKn ?_)); refine rkP ?_ ?_ <;> (intro hq; try (have hq' := hq; simp only [hqs] at hq'))) | refine stp ?_ | refine aws_draws [] mixed (by kernel_rfl) ?_ | refine ifT ?_ | refine ifF ?_ | (refine ifQ ?_ ?_ <;> (try (intro hn))) | (refine ifB ?_ ?_ <;> (intro hq; try (have hq' := hq; simp only [hqs] at hq'))))
  refine aws_says (says_nil (t := 7) (o := 31) (es := 1) (ty := 3) rfl rfl (by decide)) ?_
  refine aws_loopS [7, 10, 17, 18, 19, 20, 21, 22, 23, 24, 25, 26, 27, 28, 29, 30, 31, 32] [31] (fun (x : Nat × Nat × List Int) => [(17, .p (.i x.1)), (7, .o (.osl 31 x.2.1 1 0 x.2.2.length))]) (fun x => [(31, (x.2.1 + 1, some (.buf 3 1 (x.2.2.map fun n => [PVal.i n]))))]) (fun x => x.1 ≤ 16 ∧ x.2.2 = lvTo (fun j => !decide (X.getD j default = Y.getD j default)) x.1) (fun x => 16 - x.1) (0, 0, []) ⟨Nat.zero_le _, rfl⟩ (by exact knA) (by exact knA) ?_
  rintro ⟨i, g, out⟩ β γ ⟨hi, hout⟩
  dsimp only at hi hout ⊢
  have hol : out.length ≤ 16 := by rw [hout]; exact Nat.le_trans (lvTo_len _ _) hi
  by_cases hil : i < 16
  · have d1 : decide ((i : Int) < 16) = true := decide_eq_true (by omega)
    have q1 := k1 (i : Int).toNat
    have q2 := k2 (i : Int).toNat
    by_cases hp : X.getD i default = Y.getD i default
    · have d2 : (!decide (X.getD (i : Int).toNat default = Y.getD (i : Int).toNat default)) = false := by rw [Int.toNat_natCast, decide_eq_true hp]; rfl
      have hs : lvTo (fun j => !decide (X.getD j default = Y.getD j default)) (i + 1) = lvTo (fun j => !decide (X.getD j default = Y.getD j default)) i := by rw [lvTo, if_neg (by rw [decide_eq_true hp]; simp)]
      as_aux_lemma =>
        repeat' (first | refine rnC ?_ | refine rnSB ?_ | refine rnG ?_ | refine rnU ?_ | ((fail_if_success (refine rnKn ?_)); refine rnP ?_ ?_ <;> (intro hq; try (have hq' := hq; simp only [hqs] at hq'))) | refine rkC ?_ | refine rkSB ?_ | refine rkF ?_ | refine rkU ?_ | ((fail_if_success (refine rkKn ?_)); refine rkP ?_ ?_ <;> (intro hq; try (have hq' := hq; simp only [hqs] at hq'))) | refine stp ?_ | refine aws_draws [] mixed (by kernel_rfl) ?_ | refine ifT ?_ | refine ifF ?_ | (refine ifQ ?_ ?_ <;> (try (intro hn))) | (refine ifB ?_ ?_ <;> (intro hq; try (have hq' := hq; simp only [hqs] at hq'))))
        exact ⟨(i + 1, g, out), _, by dsimp only; omega, ⟨by dsimp only; omega, by dsimp only; rw [hs, hout]⟩, .refl, by exact frA⟩
    · have d2 : (!decide (X.getD (i : Int).toNat default = Y.getD (i : Int).toNat default)) = true := by rw [Int.toNat_natCast, decide_eq_false hp]; rfl
      have hs : lvTo (fun j => !decide (X.getD j default = Y.getD j default)) (i + 1) = lvTo (fun j => !decide (X.getD j default = Y.getD j default)) i ++ [(i : Int)] := by rw [lvTo, if_pos (by rw [decide_eq_false hp]; rfl)]
      as_aux_lemma =>
        repeat' (first | refine rnC ?_ | refine rnSB ?_ | refine rnG ?_ | refine rnU ?_ | ((fail_if_success (refine rnKn ?_)); refine rnP ?_ ?_ <;> (intro hq; try (have hq' := hq; simp only [hqs] at hq'))) | refine rkC ?_ | refine rkSB ?_ | refine rkF ?_ | refine rkU ?_ | ((fail_if_success (refine rkKn ?_)); refine rkP ?_ ?_ <;> (intro hq; try (have hq' := hq; simp only [hqs] at hq'))) | refine stp ?_ | refine aws_draws [] mixed (by kernel_rfl) ?_ | refine ifT ?_ | refine ifF ?_ | (refine ifQ ?_ ?_ <;> (try (intro hn))) | (refine ifB ?_ ?_ <;> (intro hq; try (have hq' := hq; simp only [hqs] at hq'))))
        exact ⟨(i + 1, g + 1, out ++ [(i : Int)]), _, by dsimp only; omega, ⟨by dsimp only; omega, by dsimp only; rw [hs, hout]⟩, .refl, by exact frA⟩
  · have d1 : decide ((i : Int) < 16) = false := decide_eq_false (by omega)
    obtain rfl : i = 16 := by omega
    rw [hA, ← hout]
    as_aux_lemma =>
      repeat' (first | refine rnC ?_ | refine rnSB ?_ | refine rnG ?_ | refine rnU ?_ | ((fail_if_success (refine rnKn ?_)); refine rnP ?_ ?_ <;> (intro hq; try (have hq' := hq; simp only [hqs] at hq'))) | refine rkC ?_ | refine rkSB ?_ | refine rkF ?_ | refine rkU ?_ | ((fail_if_success (refine rkKn ?_)); refine rkP ?_ ?_ <;> (intro hq; try (have hq' := hq; simp only [hqs] at hq'))) | refine stp ?_ | refine aws_draws [] mixed (by kernel_rfl) ?_ | refine ifT ?_ | refine ifF ?_ | (refine ifQ ?_ ?_ <;> (try (intro hn))) | (refine ifB ?_ ?_ <;> (intro hq; try (have hq' := hq; simp only [hqs] at hq'))))
      exact rt1 rfl rfl (.one (finC_map rfl rfl rfl rfl)) rfl
end Go.Proofs.YtclcfjejpogdlaaGreat.Wi
namespace Go.Proofs.YtclcfjejpogdlaaGreat.Wi
open Go Go.RowKit Go.Aw
set_option linter.unusedVariables false
set_option linter.unusedSimpArgs false
set_option maxRecDepth 8000
set_option maxHeartbeats 4000000
namespace P1
end P1
open P1
/-- a reader of b that is no more than programs can hold -/
structure RfOk (b : List Nat) (r : RS) : Prop where
  byte : ∀ c ∈ r.1, c < 256
  suf : r.1 <:+ b
  len : b.length ≤ 1000000000
end Go.Proofs.YtclcfjejpogdlaaGreat.Wi
namespace Go.Proofs.YtclcfjejpogdlaaGreat.Wi
open Go Go.RowKit Go.Aw Go.Aw.Cart Go.Proofs.YtclcfjejpogdlaaGreat.Ca
set_option linter.unusedVariables false
set_option linter.unusedSimpArgs false
set_option maxRecDepth 8000
set_option maxHeartbeats 4000000
namespace P2
end P2
section
open P2
end
open W6
end Go.Proofs.YtclcfjejpogdlaaGreat.Wi
namespace Go.Proofs.YtclcfjejpogdlaaGreat.Wi
open Go Go.RowKit Go.Aw Go.Aw.Cart Go.Proofs.YtclcfjejpogdlaaGreat.Ca
set_option linter.unusedVariables false
set_option linter.unusedSimpArgs false
set_option maxRecDepth 8000
set_option maxHeartbeats 4000000
namespace PW3
end PW3
end Go.Proofs.YtclcfjejpogdlaaGreat.Wi
namespace Go.Proofs.YtclcfjejpogdlaaGreat.Wi
open Go Go.RowKit Go.Aw Go.Aw.Cart Go.Proofs.YtclcfjejpogdlaaGreat.Ca
set_option linter.unusedVariables false
set_option linter.unusedSimpArgs false
set_option maxRecDepth 8000
set_option maxHeartbeats 4000000
theorem numB_le (x : Nat) : (numB x).length ≤ 9 := by
  have := beF_le 8 x
  show (beF 8 x).length + 1 ≤ 9
  omega
theorem vecB_le (v : List Int) : (vecB v).length ≤ 9 * v.length := by
  unfold vecB
  induction v with
  | nil => exact Nat.le_refl _
  | cons a l ih =>
    rw [List.flatMap_cons, List.length_append, List.length_cons]
    have : (numI a).length ≤ 9 := numB_le a.toNat
    omega
end Go.Proofs.YtclcfjejpogdlaaGreat.Wi
namespace Go.Proofs.YtclcfjejpogdlaaGreat.Wi
open Go Go.RowKit Go.Aw Go.Aw.Cart Go.Proofs.YtclcfjejpogdlaaGreat.Ca
set_option linter.unusedVariables false
set_option linter.unusedSimpArgs false
set_option maxRecDepth 8000
set_option maxHeartbeats 4000000
theorem entB_le (e : Ent) : (entB e).length ≤ 36 := by
  unfold entB
  simp only [List.length_append]
  have h1 : (numI e.1).length ≤ 9 := numB_le _
  have h2 : (numI e.2.1).length ≤ 9 := numB_le _
  have h3 : (numI e.2.2.1).length ≤ 9 := numB_le _
  have h4 : (intB e.2.2.2).length ≤ 9 := numB_le _
  omega
theorem entsB_le (l : List Ent) : (l.flatMap entB).length ≤ 36 * l.length := by
  induction l with
  | nil => exact Nat.le_refl _
  | cons a l ih =>
    rw [List.flatMap_cons, List.length_append, List.length_cons]
    have := entB_le a
    omega
end Go.Proofs.YtclcfjejpogdlaaGreat.Wi
namespace Go.Proofs.YtclcfjejpogdlaaGreat.Wi
open Go Go.RowKit Go.Aw Go.Aw.Cart Go.Proofs.YtclcfjejpogdlaaGreat.Ca
set_option linter.unusedVariables false
set_option linter.unusedSimpArgs false
set_option maxRecDepth 8000
set_option maxHeartbeats 4000000
/-- a keyed cart that can be written -/
structure KdW (k : Kd) : Prop where
  key : okB k.1
  len : k.1.length ≤ 20
  vec : vecOk k.2.1
  few : k.2.2.length ≤ 400
  ent : ∀ e ∈ k.2.2, entOk e
theorem textB_le (b : List Nat) : (textB b).length ≤ b.length + 9 := by
  unfold textB
  rw [List.length_append]
  have := numB_le b.length
  omega
theorem cartB_le (c : Crt) : (cartB c).length ≤ 9 * c.1.length + 9 + 36 * c.2.length := by
  unfold cartB
  simp only [List.length_append]
  have h1 := vecB_le c.1
  have h2 := numB_le c.2.length
  have h3 := entsB_le c.2
  omega
theorem kdW_le {k : Kd} (h : KdW k) : (kdB k).length ≤ 20000 := by
  unfold kdB
  rw [List.length_append]
  have h1 := textB_le k.1
  have h2 := cartB_le k.2
  have h3 := h.vec.1
  have h4 := h.few
  have h5 := h.len
  omega
theorem kdsW_le : ∀ {l : List Kd}, (∀ k ∈ l, KdW k) → (l.flatMap kdB).length ≤ 20000 * l.length
  | [], _ => Nat.le_refl _
  | k :: l, h => by
    rw [List.flatMap_cons, List.length_append, List.length_cons]
    have h1 := kdW_le (h k List.mem_cons_self)
    have h2 := kdsW_le fun e he => h e (List.mem_cons_of_mem _ he)
    omega
end Go.Proofs.YtclcfjejpogdlaaGreat.Wi
namespace Go.Proofs.YtclcfjejpogdlaaGreat.Wi
open Go Go.RowKit Go.Aw Go.Aw.Cart Go.Proofs.YtclcfjejpogdlaaGreat.Ca
set_option linter.unusedVariables false
set_option linter.unusedSimpArgs false
set_option maxRecDepth 8000
set_option maxHeartbeats 4000000
namespace PW7
end PW7
end Go.Proofs.YtclcfjejpogdlaaGreat.Wi
namespace Go.Proofs.YtclcfjejpogdlaaGreat.Cr
open Go Go.RowKit Go.Aw Go.Aw.Cart Go.Aw.Ord Go.Proofs.YtclcfjejpogdlaaGreat.Ca
set_option linter.unusedVariables false
set_option linter.unusedSimpArgs false
set_option maxRecDepth 8000
set_option maxHeartbeats 4000000
end Go.Proofs.YtclcfjejpogdlaaGreat.Cr
namespace Go.Proofs.YtclcfjejpogdlaaGreat.Cr
open Go Go.RowKit Go.Aw Go.Aw.Cart Go.Aw.Ord Go.Proofs.YtclcfjejpogdlaaGreat.Ca
set_option linter.unusedVariables false
set_option linter.unusedSimpArgs false
set_option maxRecDepth 8000
set_option maxHeartbeats 4000000
end Go.Proofs.YtclcfjejpogdlaaGreat.Cr
namespace Go.Proofs.YtclcfjejpogdlaaGreat.Cr
open Go Go.RowKit Go.Aw Go.Aw.Cart Go.Aw.Ord Go.Proofs.YtclcfjejpogdlaaGreat.Ca
set_option linter.unusedVariables false
set_option linter.unusedSimpArgs false
set_option maxRecDepth 8000
set_option maxHeartbeats 4000000
end Go.Proofs.YtclcfjejpogdlaaGreat.Cr
