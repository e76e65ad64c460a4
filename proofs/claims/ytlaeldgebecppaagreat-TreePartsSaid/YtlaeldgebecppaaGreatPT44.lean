/- trees, the reference: what an inner place's digest is made of; trees, the reference: a leaf's digest; all inner digests anew; trees, the reference: of texts, and with another text; trees, the law TreeParts: a part's tree is that of its buckets' texts; trees: TreeParts over what was read -/
import Derived.Test.YtlaeldgebecppaaGreatPT42
import Derived.Test.YtlaeldgebecppaaGreatPT43
import Derived.Test.YtlaeldgebecppaaGreatPT27
import Derived.Test.YtlaeldgebecppaaGreatPT40
import Derived.Test.YtlaeldgebecppaaGreatPT20
namespace Go.Proofs.YtlaeldgebecppaaGreat.Tr
open Go Go.RowKit Go.Aw Go.Aw.Sha Go.Aw.Tree Go.Proofs.YtlaeldgebecppaaGreat.Sh
set_option linter.unusedVariables false
set_option linter.unusedSimpArgs false
set_option maxRecDepth 8000
set_option maxHeartbeats 4000000
attribute [local irreducible] sum
theorem rbelow_c (T : List Nat) (p : Int) (hT : T.length = 672) : PCall Tryz.prog 146 [tv T, .p (.i p)] (bytesN (belowF T p) false) := by
  refine pcall_of Tryz.func146 rfl (fun w0 F S0 M0 => ?_)
  by_cases hp : 0 ≤ p ∧ p ≤ 4
  · have hkl : (kidsF p).length = 4 := by rw [kidsF_in hp]; rfl
    have hne : decide (((kidsF p).length : Int) = 0) = false := by rw [hkl]; rfl
    rw [belowF_in hp]
    repeat' (first | refine rnO ?_ | refine rnSB ?_ | refine rnG ?_ | refine rnU ?_ | ((fail_if_success (refine rnKn ?_)); refine rnP ?_ ?_ <;> (intro hq; try (have hq' := hq; simp only [hqs] at hq'))) | refine rkO ?_ | refine rkSB ?_ | refine rkF ?_ | refine rkU ?_ | ((fail_if_success (refine rkKn ?_)); refine rkP ?_ ?_ <;> (intro hq; try (have hq' := hq; simp only [hqs] at hq'))) | refine stp ?_ | refine ifT ?_ | refine ifF ?_ | (refine ifQ ?_ ?_ <;> (try (intro hn))) | (refine ifB ?_ ?_ <;> (intro hq; try (have hq' := hq; simp only [hqs] at hq'))))
    refine aws_loopS (8 :: [6, 7, 8, 15, 16, 17, 18, 19, 20, 21, 22, 23, 24, 25, 26, 27]) [8, 14] (fun (x : Nat × Nat × Option MO × Nat × List Nat) => [(6, .o (.osl 14 x.2.2.2.1 1 0 x.2.2.2.2.length)), (7, .p (.i x.1))]) (fun x => [(8, (x.2.1, x.2.2.1)), (14, (x.2.2.2.1 + 1, some (.buf 5 1 (x.2.2.2.2.map br))))])
      (fun x => x.1 ≤ 4 ∧ x.2.2.2.2 = belowTo T p x.1) (fun x => 4 - x.1) (0, 0, none, 0, belowTo T p 0) ⟨Nat.zero_le _, rfl⟩ (by exact knA) (by exact knA) ?_
    rintro ⟨i, g8, c8, g, out⟩ β γ ⟨hi, hout⟩
    simp only at hi hout
    have hol : out.length = 1 + 32 * i := by rw [hout]; exact belowTo_len hT hp i hi
    dsimp only
    by_cases hi4 : i < 4
    · have hk : (kidsF p).getD ((i : Nat) : Int).toNat default = 4 * p + 1 + i := by rw [Int.toNat_natCast]; exact kidsF_get hp hi4
      have hlt : decide ((i : Int) < 4) = true := decide_eq_true (by omega)
      have hrl : (row T (4 * p + 1 + i).toNat).length = 32 := row_len hT (by omega)
      have hrl' : (rowOf 32 T ((kidsF p).getD ((i : Nat) : Int).toNat default).toNat).length = 32 := by rw [hk]; exact hrl
      repeat' (first | refine rnB ?_ | refine rnSB ?_ | refine rnG ?_ | refine rnU ?_ | ((fail_if_success (refine rnKn ?_)); refine rnP ?_ ?_ <;> (intro hq; try (have hq' := hq; simp only [hqs] at hq'))) | refine rkB ?_ | refine rkSB ?_ | refine rkF ?_ | refine rkU ?_ | ((fail_if_success (refine rkKn ?_)); refine rkP ?_ ?_ <;> (intro hq; try (have hq' := hq; simp only [hqs] at hq'))) | refine stp ?_ | refine ifT ?_ | refine ifF ?_ | (refine ifQ ?_ ?_ <;> (try (intro hn))) | (refine ifB ?_ ?_ <;> (intro hq; try (have hq' := hq; simp only [hqs] at hq'))))
      refine ⟨(i + 1, g8 + 1, some (.box 44 ((rowOf 32 T ((kidsF p).getD ((i : Nat) : Int).toNat default).toNat).map bc)), g + 1, out ++ rowOf 32 T ((kidsF p).getD ((i : Nat) : Int).toNat default).toNat), _, by dsimp only; omega, ⟨by dsimp only; omega, ?_⟩, .refl, by exact frA⟩
      dsimp only
      rw [hk, hout]; rfl
    · have hlt : decide ((i : Int) < 4) = false := decide_eq_false (by omega)
      repeat' (first | refine rnB ?_ | refine rnSB ?_ | refine rnG ?_ | refine rnU ?_ | ((fail_if_success (refine rnKn ?_)); refine rnP ?_ ?_ <;> (intro hq; try (have hq' := hq; simp only [hqs] at hq'))) | refine rkB ?_ | refine rkSB ?_ | refine rkF ?_ | refine rkU ?_ | ((fail_if_success (refine rkKn ?_)); refine rkP ?_ ?_ <;> (intro hq; try (have hq' := hq; simp only [hqs] at hq'))) | refine stp ?_ | refine ifT ?_ | refine ifF ?_ | (refine ifQ ?_ ?_ <;> (try (intro hn))) | (refine ifB ?_ ?_ <;> (intro hq; try (have hq' := hq; simp only [hqs] at hq'))))
      refine rt1 rfl rfl (.one (finC_map rfl rfl rfl rfl)) (rs ?_)
      rw [hout, show i = 4 by omega]
  · have hne : decide (((kidsF p).length : Int) = 0) = true := by rw [kidsF_out hp]; rfl
    rw [belowF_out hp]
    repeat' (first | refine rnB ?_ | refine rnSB ?_ | refine rnG ?_ | refine rnU ?_ | ((fail_if_success (refine rnKn ?_)); refine rnP ?_ ?_ <;> (intro hq; try (have hq' := hq; simp only [hqs] at hq'))) | refine rkB ?_ | refine rkSB ?_ | refine rkF ?_ | refine rkU ?_ | ((fail_if_success (refine rkKn ?_)); refine rkP ?_ ?_ <;> (intro hq; try (have hq' := hq; simp only [hqs] at hq'))) | refine stp ?_ | refine ifT ?_ | refine ifF ?_ | (refine ifQ ?_ ?_ <;> (try (intro hn))) | (refine ifB ?_ ?_ <;> (intro hq; try (have hq' := hq; simp only [hqs] at hq'))))
    exact rt1 rfl rfl (.one .nil) rfl
instance {T : List Nat} {p : Int} : PC Tryz.prog 146 [tv T, .p (.i p)] (T.length = 672) (bytesN (belowF T p) false) := ⟨rbelow_c T p⟩
end Go.Proofs.YtlaeldgebecppaaGreat.Tr
namespace Go.Proofs.YtlaeldgebecppaaGreat.Tr
open Go Go.RowKit Go.Aw Go.Aw.Sha Go.Aw.Tree Go.Proofs.YtlaeldgebecppaaGreat.Sh
set_option linter.unusedVariables false
set_option linter.unusedSimpArgs false
set_option maxRecDepth 8000
set_option maxHeartbeats 4000000
attribute [local irreducible] sum
theorem okB_row {T : List Nat} (h : okB T) (i : Nat) : okB (rowOf 32 T i) := okB_chunk h _ _
theorem okB_belowTo {T : List Nat} (h : okB T) (p : Int) : ∀ i, okB (belowTo T p i)
  | 0 => okB.cons (by decide) .nil
  | i + 1 => okB.append (okB_belowTo h p i) (okB_row h _)
theorem okB_below {T : List Nat} (h : okB T) (p : Int) : okB (belowF T p) := by
  unfold belowF; split
  · exact okB_belowTo h p 4
  · exact .nil
theorem okB_sum (b : List Nat) : okB (sum b) := by
  with_unfolding_all (show okB (digest _))
  intro n hn
  obtain ⟨i, _, rfl⟩ := List.mem_map.1 hn
  exact Nat.mod_lt _ (by decide)
theorem okB_set {T r : List Nat} (h : okB T) (hr : okB r) (i : Nat) : okB (setRow 32 T i r) :=
  okB.append (okB.append (fun x hx => h x (List.mem_of_mem_take hx)) hr) (fun x hx => h x (List.mem_of_mem_drop hx))
theorem okB_fix {T : List Nat} (h : okB T) (p : Nat) : okB (fixF T p) := okB_set h (okB_sum _) _
theorem okB_inner {T : List Nat} (h : okB T) : ∀ i, okB (innerTo T i)
  | 0 => h
  | i + 1 => okB_fix (okB_inner h i) _
theorem rleaf_c (b : List Nat) (h : b.length ≤ 400000000) (hb : okB b) : PCall Tryz.prog 73 [.p (.v (.string (strOf b)))] (.a ((leafD b).map bc)) := by
  refine pcall_of Tryz.func73 rfl (fun w0 F S0 M0 => ?_)
  have h1 : (0 :: b).length ≤ 500000000 := by simp only [List.length_cons]; omega
  have h2 : okB (0 :: b) := .cons (by decide) hb
  have h3 : (sum (0 :: b)).length = 32 := sumLen _
  show AWs _ _ (Ret _ _ (.a ((sum (0 :: b)).map bc))) _
  repeat' (first | refine rnB ?_ | refine rnSB ?_ | refine rnG ?_ | refine rnU ?_ | ((fail_if_success (refine rnKn ?_)); refine rnP ?_ ?_ <;> (intro hq; try (have hq' := hq; simp only [hqs] at hq'))) | refine rkB ?_ | refine rkSB ?_ | refine rkF ?_ | refine rkU ?_ | ((fail_if_success (refine rkKn ?_)); refine rkP ?_ ?_ <;> (intro hq; try (have hq' := hq; simp only [hqs] at hq'))) | refine stp ?_ | refine ifT ?_ | refine ifF ?_ | (refine ifQ ?_ ?_ <;> (try (intro hn))) | (refine ifB ?_ ?_ <;> (intro hq; try (have hq' := hq; simp only [hqs] at hq'))))
  exact rc1 rfl rfl rfl rfl rfl (by simpa using h3) finL_p rfl
instance {b : List Nat} : PC Tryz.prog 73 [.p (.v (.string (strOf b)))] (b.length ≤ 400000000 ∧ okB b) (.a ((leafD b).map bc)) := ⟨fun h => rleaf_c b h.1 h.2⟩
theorem rinner_c (T : List Nat) (hT : T.length = 672) (ho : okB T) : PCall Tryz.prog 74 [tv T] (tv (innerF T)) := by
  refine pcall_of Tryz.func74 rfl (fun w0 F S0 M0 => ?_)
  unfold innerF
  repeat' (first | refine rnB ?_ | refine rnSB ?_ | refine rnG ?_ | refine rnU ?_ | ((fail_if_success (refine rnKn ?_)); refine rnP ?_ ?_ <;> (intro hq; try (have hq' := hq; simp only [hqs] at hq'))) | refine rkB ?_ | refine rkSB ?_ | refine rkF ?_ | refine rkU ?_ | ((fail_if_success (refine rkKn ?_)); refine rkP ?_ ?_ <;> (intro hq; try (have hq' := hq; simp only [hqs] at hq'))) | refine stp ?_ | refine ifT ?_ | refine ifF ?_ | (refine ifQ ?_ ?_ <;> (try (intro hn))) | (refine ifB ?_ ?_ <;> (intro hq; try (have hq' := hq; simp only [hqs] at hq'))))
  refine aws_loopS [3, 4, 5, 6, 7, 8, 9, 10, 11, 12, 13] [1] (fun (x : Nat × Int) => [(3, .p (.i x.2))]) (fun x => [(1, (1, some (.box 45 ((innerTo T x.1).map bc))))])
    (fun x => x.1 ≤ 5 ∧ x.2 = 4 - (x.1 : Int)) (fun x => 5 - x.1) (0, 4) ⟨Nat.zero_le _, rfl⟩ (by exact knA) (by exact knA) ?_
  rintro ⟨k, t⟩ β γ ⟨hk, ht⟩
  simp only at hk ht
  have hil := innerTo_len hT k
  have hbl := belowF_len (T := innerTo T k) (p := t) hil
  have hbl' : (belowF (innerTo T k) t).length ≤ 500000000 := by omega
  have hbo := okB_below (okB_inner ho k) t
  have hsl : (sum (belowF (innerTo T k) t)).length = 32 := sumLen _
  dsimp only
  by_cases hk5 : k < 5
  · have hd : decide (0 ≤ t) = true := decide_eq_true (by omega)
    repeat' (first | refine rnB ?_ | refine rnSB ?_ | refine rnG ?_ | refine rnU ?_ | ((fail_if_success (refine rnKn ?_)); refine rnP ?_ ?_ <;> (intro hq; try (have hq' := hq; simp only [hqs] at hq'))) | refine rkB ?_ | refine rkSB ?_ | refine rkF ?_ | refine rkU ?_ | ((fail_if_success (refine rkKn ?_)); refine rkP ?_ ?_ <;> (intro hq; try (have hq' := hq; simp only [hqs] at hq'))) | refine stp ?_ | refine ifT ?_ | refine ifF ?_ | (refine ifQ ?_ ?_ <;> (try (intro hn))) | (refine ifB ?_ ?_ <;> (intro hq; try (have hq' := hq; simp only [hqs] at hq'))))
    refine ⟨(k + 1, t - 1), _, by dsimp only; omega, ⟨by dsimp only; omega, by dsimp only; omega⟩, .refl, ?_⟩
    have e : innerTo T (k + 1) = setRow 32 (innerTo T k) t.toNat (sum (belowF (innerTo T k) t)) := by
      obtain rfl : t = ((4 - k : Nat) : Int) := by omega
      rw [innerTo, fixF, Int.toNat_natCast]
    dsimp only
    rw [e]
    exact frA
  · have hd : decide (0 ≤ t) = false := decide_eq_false (by omega)
    have hk5' : innerTo T 5 = innerTo T k := by rw [show k = 5 by omega]
    rw [hk5']
    repeat' (first | refine rnB ?_ | refine rnSB ?_ | refine rnG ?_ | refine rnU ?_ | ((fail_if_success (refine rnKn ?_)); refine rnP ?_ ?_ <;> (intro hq; try (have hq' := hq; simp only [hqs] at hq'))) | refine rkB ?_ | refine rkSB ?_ | refine rkF ?_ | refine rkU ?_ | ((fail_if_success (refine rkKn ?_)); refine rkP ?_ ?_ <;> (intro hq; try (have hq' := hq; simp only [hqs] at hq'))) | refine stp ?_ | refine ifT ?_ | refine ifF ?_ | (refine ifQ ?_ ?_ <;> (try (intro hn))) | (refine ifB ?_ ?_ <;> (intro hq; try (have hq' := hq; simp only [hqs] at hq'))))
    exact rc1 rfl rfl rfl rfl rfl (by simpa using hil) finL_p rfl
instance {T : List Nat} : PC Tryz.prog 74 [tv T] (T.length = 672 ∧ okB T) (tv (innerF T)) := ⟨fun h => rinner_c T h.1 h.2⟩
end Go.Proofs.YtlaeldgebecppaaGreat.Tr
namespace Go.Proofs.YtlaeldgebecppaaGreat.Tr
open Go Go.RowKit Go.Aw Go.Aw.Sha Go.Aw.Tree Go.Proofs.YtlaeldgebecppaaGreat.Sh
set_option linter.unusedVariables false
set_option linter.unusedSimpArgs false
set_option maxRecDepth 8000
set_option maxHeartbeats 4000000
attribute [local irreducible] sum
abbrev strs (ls : List (List Nat)) : AV := .a (ls.map fun b => .p (.v (.string (strOf b))))
def okT (ls : List (List Nat)) : Prop := ∀ b ∈ ls, okB b
theorem okT_get {ls : List (List Nat)} (h : okT ls) (i : Nat) : okB (ls.getD i default) := by
  rw [List.getD_eq_getElem?_getD]
  cases hx : ls[i]? with
  | none => exact .nil
  | some x => exact h x (List.mem_of_getElem? hx)
theorem okB_leaves (ls : List (List Nat)) : ∀ i, okB (leavesTo ls i)
  | 0 => fun n hn => by rw [leavesTo] at hn; rw [List.eq_of_mem_replicate hn]; decide
  | i + 1 => okB_set (okB_leaves ls i) (okB_sum _) _
theorem rof_c (ls : List (List Nat)) (h : few ls) (ho : okT ls) : PCall Tryz.prog 26 [strs ls] (tv (ofF ls)) := by
  refine pcall_of Tryz.func26 rfl (fun w0 F S0 M0 => ?_)
  have hl16 := h.1
  repeat' (first | refine rnB ?_ | refine rnSB ?_ | refine rnG ?_ | refine rnU ?_ | ((fail_if_success (refine rnKn ?_)); refine rnP ?_ ?_ <;> (intro hq; try (have hq' := hq; simp only [hqs] at hq'))) | refine rkB ?_ | refine rkSB ?_ | refine rkF ?_ | refine rkU ?_ | ((fail_if_success (refine rkKn ?_)); refine rkP ?_ ?_ <;> (intro hq; try (have hq' := hq; simp only [hqs] at hq'))) | refine stp ?_ | refine ifT ?_ | refine ifF ?_ | (refine ifQ ?_ ?_ <;> (try (intro hn))) | (refine ifB ?_ ?_ <;> (intro hq; try (have hq' := hq; simp only [hqs] at hq'))))
  refine aws_loopS [4, 5, 6, 7, 8, 9, 10, 11, 12, 13, 14, 15] [3] (fun (i : Nat) => [(4, .p (.i i))]) (fun i => [(3, (1, some (.box 45 ((leavesTo ls i).map bc))))])
    (fun i => i ≤ 16) (fun i => 16 - i) 0 (Nat.zero_le _) (by exact knA) (by exact knA) ?_
  rintro i β γ hi
  have hfl := few_get h (i : Int).toNat
  have hfo := okT_get ho (i : Int).toNat
  have hll := leavesTo_len ls i hi
  have hlo := okB_leaves ls i
  have hdl : (leafD (ls.getD (i : Int).toNat default)).length = 32 := leafD_len _
  by_cases hi16 : i < 16
  · have hd : decide ((i : Int) < 16) = true := decide_eq_true (by omega)
    repeat' (first | refine rnB ?_ | refine rnSB ?_ | refine rnG ?_ | refine rnU ?_ | ((fail_if_success (refine rnKn ?_)); refine rnP ?_ ?_ <;> (intro hq; try (have hq' := hq; simp only [hqs] at hq'))) | refine rkB ?_ | refine rkSB ?_ | refine rkF ?_ | refine rkU ?_ | ((fail_if_success (refine rkKn ?_)); refine rkP ?_ ?_ <;> (intro hq; try (have hq' := hq; simp only [hqs] at hq'))) | refine stp ?_ | refine ifT ?_ | refine ifF ?_ | (refine ifQ ?_ ?_ <;> (try (intro hn))) | (refine ifB ?_ ?_ <;> (intro hq; try (have hq' := hq; simp only [hqs] at hq'))))
    refine ⟨i + 1, _, by omega, by omega, .refl, ?_⟩
    have e : leavesTo ls (i + 1) = setRow 32 (leavesTo ls i) (5 + (i : Int)).toNat (leafD (ls.getD (i : Int).toNat default)) := by
      rw [leavesTo, Int.toNat_natCast]; congr 1
    rw [e]
    exact frA
  · have hd : decide ((i : Int) < 16) = false := decide_eq_false (by omega)
    have hof : ofF ls = innerF (leavesTo ls i) := by rw [show i = 16 by omega]; rfl
    clear hdl hfl hfo
    rw [hof]
    generalize leavesTo ls i = L at hll hlo ⊢
    have hil : (innerF L).length = 672 := innerTo_len hll 5
    repeat' (first | refine rnB ?_ | refine rnSB ?_ | refine rnG ?_ | refine rnU ?_ | ((fail_if_success (refine rnKn ?_)); refine rnP ?_ ?_ <;> (intro hq; try (have hq' := hq; simp only [hqs] at hq'))) | refine rkB ?_ | refine rkSB ?_ | refine rkF ?_ | refine rkU ?_ | ((fail_if_success (refine rkKn ?_)); refine rkP ?_ ?_ <;> (intro hq; try (have hq' := hq; simp only [hqs] at hq'))) | refine stp ?_ | refine ifT ?_ | refine ifF ?_ | (refine ifQ ?_ ?_ <;> (try (intro hn))) | (refine ifB ?_ ?_ <;> (intro hq; try (have hq' := hq; simp only [hqs] at hq'))))
    exact rc1 rfl rfl rfl rfl rfl (by simpa using hil) finL_p rfl
end Go.Proofs.YtlaeldgebecppaaGreat.Tr
namespace Go.Proofs.YtlaeldgebecppaaGreat.Wi
open Go Go.RowKit Go.Aw Go.Aw.Sha Go.Aw.Cart Go.Aw.Tree Go.Proofs.YtlaeldgebecppaaGreat.Ca Go.Proofs.YtlaeldgebecppaaGreat.Rg Go.Proofs.YtlaeldgebecppaaGreat.Sh 
set_option linter.unusedVariables false
set_option linter.unusedSimpArgs false
set_option maxRecDepth 8000
set_option maxHeartbeats 4000000
attribute [local irreducible] sum
open M1
theorem bkts_wr {l : List Kd} (h : LIn l) (part : Int) (j : Nat) : ∀ k ∈ (bktsF l part).getD j [], KdW k :=
  kdW_of' (fun k hk => h.kd k (bk_sub k hk)) (bkts_ok l part j)
theorem txs_few {l : List Kd} (h : LIn l) (part : Int) : Tr.few (txsF l part) := by
  refine ⟨txsF_len l part, fun b hb => ?_⟩
  obtain ⟨j, hj, rfl⟩ := getD_mem hb
  rw [txsF_len] at hj
  rw [txs_get l part hj]
  have h1 := kdsW_le (bkts_wr h part j)
  have h2 := (bkts_ok l part j).few
  have h3 := numB_le ((bktsF l part).getD j []).length
  unfold listB
  rw [List.length_append]
  omega
theorem txs_okT {l : List Kd} (h : LIn l) (part : Int) : Tr.okT (txsF l part) := fun b hb => by
  obtain ⟨j, hj, rfl⟩ := getD_mem hb
  exact txs_ok l part j h
theorem ofF_672 (ls : List (List Nat)) : (ofF ls).length = 672 := ofF_len ls
theorem treePart_w (l : List Kd) (ex : Bool) (part : Int) (h : LIn l) : PCall Tryz.prog 25 [.p (.sl 10 (l.map kR) ex), .p (.i part)] (Tr.tv (ofF (txsF l part))) := by
  refine pcall_of Tryz.func25 rfl (fun w0 F S0 M0 => ?_)
  have c1 := texts_w l ex part h
  have hf := txs_few h part
  generalize txsF l part = X at *
  haveI i1 : PC Tryz.prog 14 [.p (.sl 10 (l.map kR) ex), .p (.i part)] True (.a (X.map fun b => .p (.sl 1 (b.map bR) false))) := ⟨fun _ => c1⟩
  haveI i2 : PC Tryz.prog 65 [.a (X.map fun b => .p (.sl 1 (b.map bR) false))] True (Tr.tv (ofF X)) := ⟨fun _ => Tr.of_c X hf⟩
  have hT := ofF_672 X
  generalize ofF X = T at *
  as_aux_lemma =>
    repeat' (first | refine rnC ?_ | refine rnSB ?_ | refine rnG ?_ | refine rnU ?_ | ((fail_if_success (refine rnKn ?_)); refine rnP ?_ ?_ <;> (intro hq; try (have hq' := hq; simp only [hqs] at hq'))) | refine rkC ?_ | refine rkSB ?_ | refine rkF ?_ | refine rkU ?_ | ((fail_if_success (refine rkKn ?_)); refine rkP ?_ ?_ <;> (intro hq; try (have hq' := hq; simp only [hqs] at hq'))) | refine stp ?_ | refine ifT ?_ | refine ifF ?_ | (refine ifQ ?_ ?_ <;> (try (intro hn))) | (refine ifB ?_ ?_ <;> (intro hq; try (have hq' := hq; simp only [hqs] at hq'))))
    exact rc1 rfl rfl rfl rfl rfl (by rw [List.length_map]; exact hT) finL_map rfl
theorem treeParts_w (l : List Kd) (ex : Bool) (part : Int) (hl : l.length ≤ 9223372036854775807) (hin : ∀ k ∈ l, KdI k) : PCall Tryz.prog 4 [.p (.sl 10 (l.map kR) ex), .p (.i part)] (.p (.b true)) := by
  refine pcall_of Tryz.func4 rfl (fun w0 F S0 M0 => ?_)
  have c0 := pgreat_w l ex hl
  cases hg : greatL l with
  | true =>
    rw [hg] at c0
    haveI : PC Tryz.prog 10 [.p (.sl 10 (l.map kR) ex)] True (.p (.b true)) := ⟨fun _ => c0⟩
    as_aux_lemma =>
      repeat' (first | refine rnC ?_ | refine rnSB ?_ | refine rnG ?_ | refine rnU ?_ | ((fail_if_success (refine rnKn ?_)); refine rnP ?_ ?_ <;> (intro hq; try (have hq' := hq; simp only [hqs] at hq'))) | refine rkC ?_ | refine rkSB ?_ | refine rkF ?_ | refine rkU ?_ | ((fail_if_success (refine rkKn ?_)); refine rkP ?_ ?_ <;> (intro hq; try (have hq' := hq; simp only [hqs] at hq'))) | refine stp ?_ | refine ifT ?_ | refine ifF ?_ | (refine ifQ ?_ ?_ <;> (try (intro hn))) | (refine ifB ?_ ?_ <;> (intro hq; try (have hq' := hq; simp only [hqs] at hq'))))
      exact rt1 rfl rfl finS_p rfl
  | false =>
  rw [hg] at c0
  haveI : PC Tryz.prog 10 [.p (.sl 10 (l.map kR) ex)] True (.p (.b false)) := ⟨fun _ => c0⟩
  have ha := lin_of hg hin hl
  have fa := fun k hk => (greatL_no hg).2 k hk
  haveI i1 : PC Tryz.prog 13 [.p (.sl 10 (l.map kR) ex)] True (.p (.sl 10 (l.map kR) false)) := ⟨fun _ => asK_w l ex ha.len hin fun k hk => by have := (fa k hk).2; omega⟩
  have t1 := treePart_w l ex part ha
  have t2 := refTexts_w l false part ha
  have t3 := Tr.rof_c (txsF l part) (txs_few ha part) (txs_okT ha part)
  have hT := ofF_672 (txsF l part)
  generalize txsF l part = X at *
  generalize ofF X = T at *
  haveI i2 : PC Tryz.prog 25 [.p (.sl 10 (l.map kR) ex), .p (.i part)] True (Tr.tv T) := ⟨fun _ => t1⟩
  haveI i3 : PC Tryz.prog 12 [.p (.sl 10 (l.map kR) false), .p (.i part)] True (.a (X.map fun b => .p (.v (.string (strOf b))))) := ⟨fun _ => t2⟩
  haveI i4 : PC Tryz.prog 26 [.a (X.map fun b => .p (.v (.string (strOf b))))] True (Tr.tv T) := ⟨fun _ => t3⟩
  have dT : decide (T = T) = true := decide_eq_true rfl
  clear t1 t2 t3 c0 ha fa hin
  as_aux_lemma =>
    repeat' (first | refine rnC ?_ | refine rnSB ?_ | refine rnG ?_ | refine rnU ?_ | ((fail_if_success (refine rnKn ?_)); refine rnP ?_ ?_ <;> (intro hq; try (have hq' := hq; simp only [hqs] at hq'))) | refine rkC ?_ | refine rkSB ?_ | refine rkF ?_ | refine rkU ?_ | ((fail_if_success (refine rkKn ?_)); refine rkP ?_ ?_ <;> (intro hq; try (have hq' := hq; simp only [hqs] at hq'))) | refine stp ?_ | refine ifT ?_ | refine ifF ?_ | (refine ifQ ?_ ?_ <;> (try (intro hn))) | (refine ifB ?_ ?_ <;> (intro hq; try (have hq' := hq; simp only [hqs] at hq'))))
    exact rt1 rfl rfl finS_p (rb dT.symm)
theorem treeParts_a (a : List Kd) (p : Int) (h : a.length ≤ maxLen ∧ ∀ k ∈ a, KdI k) : PCall Tryz.prog 4 [argAV false [.sl 10 (a.map fun k => kR k) false], argAV false [.k .i64 p]] (.p (.b true)) := treeParts_w a false p h.1 h.2
end Go.Proofs.YtlaeldgebecppaaGreat.Wi

