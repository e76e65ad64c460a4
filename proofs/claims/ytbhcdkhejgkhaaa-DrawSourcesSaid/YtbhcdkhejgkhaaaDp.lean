/- Chapter 25 (draw): how the arguments of its laws read. -/
import Derived.Test.YtbhcdkhejgkhaaaKf
import Derived.Test.YtbhcdkhejgkhaaaTy
namespace Go.Proofs.Ytbhcdkhejgkhaaa.Dr
open Go Go.RowKit Go.Aw
theorem rd_ints : Reads Try.prog 33 (List Int) (fun l => [.sl 1 (l.map fun n => [PVal.k .i64 n]) false]) (fun l => l.length ≤ maxLen ∧ ∀ n ∈ l, IntKind.i64.min ≤ n ∧ n ≤ IntKind.i64.max) :=
  reads_slice inferInstance inferInstance (by decide) (reads_int inferInstance)
theorem rd_u64s : Reads Try.prog 38 (List Int) (fun l => [.sl 1 (l.map fun n => [PVal.k .u64 n]) false]) (fun l => l.length ≤ maxLen ∧ ∀ n ∈ l, IntKind.u64.min ≤ n ∧ n ≤ IntKind.u64.max) :=
  reads_slice inferInstance inferInstance (by decide) (reads_int inferInstance)
theorem u64_of {l : List Int} (h : ∀ n ∈ l, IntKind.u64.min ≤ n ∧ n ≤ IntKind.u64.max) : ∀ n ∈ l, 0 ≤ n ∧ n < 18446744073709551616 := fun n hn => by
  have := h n hn
  simp only [IntKind.min, IntKind.max, IntKind.signed, IntKind.bits] at this
  simp at this; omega
theorem rd_u64 : Reads Try.prog 39 Int (fun n => [PVal.k .u64 n]) (fun n => IntKind.u64.min ≤ n ∧ n ≤ IntKind.u64.max) := reads_int inferInstance
theorem u64_of1 {n : Int} (h : IntKind.u64.min ≤ n ∧ n ≤ IntKind.u64.max) : 0 ≤ n ∧ n < 18446744073709551616 := u64_of (l := [n]) (by simpa using h) n (by simp)
theorem rd_int : Reads Try.prog 3 Int (fun n => [PVal.k .i64 n]) (fun n => IntKind.i64.min ≤ n ∧ n ≤ IntKind.i64.max) := reads_int inferInstance
theorem i64_of {n : Int} (h : IntKind.i64.min ≤ n ∧ n ≤ IntKind.i64.max) : -9223372036854775808 ≤ n ∧ n ≤ 9223372036854775807 := by
  simp only [IntKind.min, IntKind.max, IntKind.signed, IntKind.bits] at h
  simp at h; omega
theorem rd_u8s : Reads Try.prog 58 (List Int) (fun l => [.sl 1 (l.map fun n => [PVal.k .u8 n]) false]) (fun l => l.length ≤ maxLen ∧ ∀ n ∈ l, IntKind.u8.min ≤ n ∧ n ≤ IntKind.u8.max) :=
  reads_slice inferInstance inferInstance (by decide) (reads_int inferInstance)
theorem u8_of {l : List Int} (h : ∀ n ∈ l, IntKind.u8.min ≤ n ∧ n ≤ IntKind.u8.max) : ∀ n ∈ l, 0 ≤ n ∧ n < 256 := fun n hn => by
  have := h n hn
  simp only [IntKind.min, IntKind.max, IntKind.signed, IntKind.bits] at this
  simp at this; omega
theorem len_of {α : Type} {l : List α} (h : l.length ≤ maxLen) : l.length ≤ 9223372036854775807 := by simpa [maxLen] using h
end Go.Proofs.Ytbhcdkhejgkhaaa.Dr
