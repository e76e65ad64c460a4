/- trees, the reference: what an inner place's digest is made of; trees, the reference: a leaf's digest; all inner digests anew; trees, the reference: of texts, and with another text; trees, the law TreeParts: a part's tree is that of its buckets' texts -/
import Derived.Test.YtclcfjejpogdlaaGreatCS37
import Derived.Test.YtclcfjejpogdlaaGreatCS23
import Derived.Test.YtclcfjejpogdlaaGreatCS36
namespace Go.Proofs.YtclcfjejpogdlaaGreat.Tr
open Go Go.RowKit Go.Aw Go.Aw.Sha Go.Aw.Tree Go.Proofs.YtclcfjejpogdlaaGreat.Sh
set_option linter.unusedVariables false
set_option linter.unusedSimpArgs false
set_option maxRecDepth 8000
set_option maxHeartbeats 4000000
attribute [local irreducible] sum
end Go.Proofs.YtclcfjejpogdlaaGreat.Tr
namespace Go.Proofs.YtclcfjejpogdlaaGreat.Tr
open Go Go.RowKit Go.Aw Go.Aw.Sha Go.Aw.Tree Go.Proofs.YtclcfjejpogdlaaGreat.Sh
set_option linter.unusedVariables false
set_option linter.unusedSimpArgs false
set_option maxRecDepth 8000
set_option maxHeartbeats 4000000
attribute [local irreducible] sum
theorem okB_row {T : List Nat} (h : okB T) (i : Nat) : okB (rowOf 32 T i) := okB_chunk h _ _
theorem okB_belowTo {T : List Nat} (h : okB T) (p : Int) : ∀ i, okB (belowTo T p i)
  | 0 => okB.cons (by decide) .nil
  | i + 1 => okB.append (okB_belowTo h p i) (okB_row h _)
theorem okB_below {T : List Nat} (h : okB T) (p : Int) : okB (belowF T p) := by
  unfold belowF; split
  · exact okB_belowTo h p 4
  · exact .nil
theorem okB_sum (b : List Nat) : okB (sum b) := by
  with_unfolding_all (show okB (digest _))
  intro n hn
  obtain ⟨i, _, rfl⟩ := List.mem_map.1 hn
  exact Nat.mod_lt _ (by decide)
theorem okB_set {T r : List Nat} (h : okB T) (hr : okB r) (i : Nat) : okB (setRow 32 T i r) :=
  okB.append (okB.append (fun x hx => h x (List.mem_of_mem_take hx)) hr) (fun x hx => h x (List.mem_of_mem_drop hx))
theorem okB_fix {T : List Nat} (h : okB T) (p : Nat) : okB (fixF T p) := okB_set h (okB_sum _) _
theorem okB_inner {T : List Nat} (h : okB T) : ∀ i, okB (innerTo T i)
  | 0 => h
  | i + 1 => okB_fix (okB_inner h i) _
end Go.Proofs.YtclcfjejpogdlaaGreat.Tr
namespace Go.Proofs.YtclcfjejpogdlaaGreat.Tr
open Go Go.RowKit Go.Aw Go.Aw.Sha Go.Aw.Tree Go.Proofs.YtclcfjejpogdlaaGreat.Sh
set_option linter.unusedVariables false
set_option linter.unusedSimpArgs false
set_option maxRecDepth 8000
set_option maxHeartbeats 4000000
attribute [local irreducible] sum
def okT (ls : List (List Nat)) : Prop := ∀ b ∈ ls, okB b
theorem okT_get {ls : List (List Nat)} (h : okT ls) (i : Nat) : okB (ls.getD i default) := by
  rw [List.getD_eq_getElem?_getD]
  cases hx : ls[i]? with
  | none => exact .nil
  | some x => exact h x (List.mem_of_getElem? hx)
theorem okB_leaves (ls : List (List Nat)) : ∀ i, okB (leavesTo ls i)
  | 0 => fun n hn => by rw [leavesTo] at hn; rw [List.eq_of_mem_replicate hn]; decide
  | i + 1 => okB_set (okB_leaves ls i) (okB_sum _) _
end Go.Proofs.YtclcfjejpogdlaaGreat.Tr
namespace Go.Proofs.YtclcfjejpogdlaaGreat.Wi
open Go Go.RowKit Go.Aw Go.Aw.Sha Go.Aw.Cart Go.Aw.Tree Go.Proofs.YtclcfjejpogdlaaGreat.Ca Go.Proofs.YtclcfjejpogdlaaGreat.Rg Go.Proofs.YtclcfjejpogdlaaGreat.Sh 
set_option linter.unusedVariables false
set_option linter.unusedSimpArgs false
set_option maxRecDepth 8000
set_option maxHeartbeats 4000000
attribute [local irreducible] sum
open M1
theorem bkts_wr {l : List Kd} (h : LIn l) (part : Int) (j : Nat) : ∀ k ∈ (bktsF l part).getD j [], KdW k :=
  kdW_of' (fun k hk => h.kd k (bk_sub k hk)) (bkts_ok l part j)
theorem txs_few {l : List Kd} (h : LIn l) (part : Int) : Tr.few (txsF l part) := by
  refine ⟨txsF_len l part, fun b hb => ?_⟩
  obtain ⟨j, hj, rfl⟩ := getD_mem hb
  rw [txsF_len] at hj
  rw [txs_get l part hj]
  have h1 := kdsW_le (bkts_wr h part j)
  have h2 := (bkts_ok l part j).few
  have h3 := numB_le ((bktsF l part).getD j []).length
  unfold listB
  rw [List.length_append]
  omega
theorem txs_okT {l : List Kd} (h : LIn l) (part : Int) : Tr.okT (txsF l part) := fun b hb => by
  obtain ⟨j, hj, rfl⟩ := getD_mem hb
  exact txs_ok l part j h
theorem ofF_672 (ls : List (List Nat)) : (ofF ls).length = 672 := ofF_len ls
theorem treePart_w (l : List Kd) (ex : Bool) (part : Int) (h : LIn l) : PCall Tryz.prog 21 [.p (.sl 10 (l.map kR) ex), .p (.i part)] (Tr.tv (ofF (txsF l part))) := by
  refine pcall_of Tryz.func21 rfl (fun w0 F S0 M0 => ?_)
  have c1 := texts_w l ex part h
  have hf := txs_few h part
  generalize txsF l part = X at *
  haveI i1 : PC Tryz.prog 17 [.p (.sl 10 (l.map kR) ex), .p (.i part)] True (.a (X.map fun b => .p (.sl 1 (b.map bR) false))) := ⟨fun _ => c1⟩
  haveI i2 : PC Tryz.prog 90 [.a (X.map fun b => .p (.sl 1 (b.map bR) false))] True (Tr.tv (ofF X)) := ⟨fun _ => Tr.of_c X hf⟩
  have hT := ofF_672 X
  generalize ofF X = T at *
  as_aux_lemma =>
    repeat' (first | refine rnC ?_ | refine rnSB ?_ | refine rnG ?_ | refine rnU ?_ | ((fail_if_success (refine rnKn ?_)); refine rnP ?_ ?_ <;> (intro hq; try (have hq' := hq; simp only [hqs] at hq'))) | refine rkC ?_ | refine rkSB ?_ | refine rkF ?_ | refine rkU ?_ | ((fail_if_success (refine rkKn ?_)); refine rkP ?_ ?_ <;> (intro hq; try (have hq' := hq; simp only [hqs] at hq'))) | refine stp ?_ | refine ifT ?_ | refine ifF ?_ | (refine ifQ ?_ ?_ <;> (try (intro hn))) | (refine ifB ?_ ?_ <;> (intro hq; try (have hq' := hq; simp only [hqs] at hq'))))
    exact rc1 rfl rfl rfl rfl rfl (by rw [List.length_map]; exact hT) finL_map rfl
end Go.Proofs.YtclcfjejpogdlaaGreat.Wi
