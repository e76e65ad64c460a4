/- clashes: how the arguments of the laws read. -/
import Derived.Test.YtpamepepibnlfaaKf
import Derived.Test.YtpamepepibnlfaaClG
import Derived.Test.YtpamepepibnlfaaTy
namespace Go.Proofs.Ytpamepepibnlfaa.Cl
open Go Go.RowKit Go.Aw Go.Aw.Tree Go.Proofs.Ytpamepepibnlfaa.Sh Go.Proofs.Ytpamepepibnlfaa.Tr
set_option linter.unusedVariables false
set_option linter.unusedSimpArgs false
theorem rd_int : Reads Try.prog 3 Int (fun n => [PVal.k .i64 n]) (fun n => IntKind.i64.min ≤ n ∧ n ≤ IntKind.i64.max) := reads_int inferInstance
theorem len_of {α : Type} {l : List α} (h : l.length ≤ maxLen) : l.length ≤ 9223372036854775807 := by simpa [maxLen] using h
theorem nat_of {n : Int} (h : IntKind.u8.min ≤ n ∧ n ≤ IntKind.u8.max) : ((n.toNat : Nat) : Int) = n ∧ n.toNat < 256 := by
  simp only [IntKind.min, IntKind.max, IntKind.signed, IntKind.bits] at h
  simp at h; omega
def bRow (b : List Nat) : List PVal := [PVal.sl 1 (b.map fun n : Nat => [PVal.k .u8 n]) false]
def bOk (b : List Nat) : Prop := b.length ≤ maxLen ∧ okB b
theorem nats_map {β : Type} {f : Int → β} {l : List Int} (h : ∀ n ∈ l, IntKind.u8.min ≤ n ∧ n ≤ IntKind.u8.max) : (l.map Int.toNat).map (fun n : Nat => f (n : Int)) = l.map f := by
  rw [List.map_map]
  exact List.map_congr_left fun n hn => by simp only [Function.comp_apply, (nat_of (h n hn)).1]
theorem nats_ok {l : List Int} (h : ∀ n ∈ l, IntKind.u8.min ≤ n ∧ n ≤ IntKind.u8.max) : okB (l.map Int.toNat) := fun n hn => by
  obtain ⟨m, hm, rfl⟩ := List.mem_map.1 hn
  exact (nat_of (h m hm)).2
theorem rd_bytes : Reads Try.prog 22 (List Nat) bRow bOk :=
  (reads_slice (α := Int) (row := fun n => [PVal.k .u8 n]) (ok := fun n => IntKind.u8.min ≤ n ∧ n ≤ IntKind.u8.max) inferInstance inferInstance (by decide) (reads_int inferInstance)).imp' (fun l => l.map Int.toNat)
    (fun l h => by unfold bRow; rw [nats_map (f := fun n => [PVal.k .u8 n]) h.2]) (fun l h => ⟨by simpa using h.1, nats_ok h.2⟩)
def tRow (l : List (List Nat)) : List PVal := l.map fun b => PVal.sl 1 (b.map fun n : Nat => [PVal.k .u8 n]) false
theorem rd_txs : Reads Try.prog 23 (List (List Nat)) tRow (fun l => l.length = 16 ∧ ∀ b ∈ l, bOk b) :=
  (reads_array (inferInstance : TI Try.prog 23 _ _ _) (inferInstance : TI Try.prog 22 _ _ _) rfl rd_bytes).imp' id (fun l h => by
    clear h
    unfold tRow
    show List.map _ l = _
    induction l with
    | nil => rfl
    | cons b l ih => simp [bRow, ih]) (fun l h => h)
def dRow (d : List Nat) : List PVal := d.map fun n : Nat => PVal.k .u8 n
theorem rd_dig : Reads Try.prog 38 (List Nat) dRow (fun d => d.length = 32 ∧ okB d) :=
  (reads_array (α := Int) (row := fun n => [PVal.k .u8 n]) (ok := fun n => IntKind.u8.min ≤ n ∧ n ≤ IntKind.u8.max) (inferInstance : TI Try.prog 38 _ _ _) (inferInstance : TI Try.prog 5 _ _ _) rfl (reads_int inferInstance)).imp' (fun l => l.map Int.toNat)
    (fun l h => by
      unfold dRow; rw [nats_map (f := fun n => PVal.k .u8 n) h.2]
      clear h
      induction l with
      | nil => rfl
      | cons b l ih => simp [ih]) (fun l h => ⟨by simpa using h.1, nats_ok h.2⟩)
theorem rd_digs : Reads Try.prog 154 (List (List Nat)) (fun l => [.sl 32 (l.map dRow) false]) (fun l => l.length ≤ maxLen ∧ ∀ d ∈ l, d.length = 32 ∧ okB d) :=
  reads_slice inferInstance inferInstance (by decide) rd_dig
theorem txs_arg (l : List (List Nat)) : argAV true (tRow l) = txs l := by
  show AV.a ((tRow l).map .p) = _
  unfold tRow
  rw [List.map_map]; rfl
theorem okT_of {l : List (List Nat)} (h : ∀ b ∈ l, bOk b) : okT l := fun b hb => (h b hb).2
end Go.Proofs.Ytpamepepibnlfaa.Cl
