/- carts: how the arguments of the laws read -/
import Derived.Test.YtbfjcohocedoaaaCaV
namespace Go.Proofs.Ytbfjcohocedoaaa.Ca
open Go Go.RowKit Go.Aw Go.Aw.Cart
set_option linter.unusedVariables false
set_option linter.unusedSimpArgs false
theorem i64_of {n : Int} (h : IntKind.i64.min ≤ n ∧ n ≤ IntKind.i64.max) : -9223372036854775808 ≤ n ∧ n ≤ 9223372036854775807 := by
  simp only [IntKind.min, IntKind.max, IntKind.signed, IntKind.bits] at h
  simp at h; omega
theorem u64_of {n : Int} (h : IntKind.u64.min ≤ n ∧ n ≤ IntKind.u64.max) : 0 ≤ n ∧ n < 18446744073709551616 := by
  simp only [IntKind.min, IntKind.max, IntKind.signed, IntKind.bits] at h
  simp at h; omega
theorem u16_of {n : Int} (h : IntKind.u16.min ≤ n ∧ n ≤ IntKind.u16.max) : 0 ≤ n ∧ n < 65536 := by
  simp only [IntKind.min, IntKind.max, IntKind.signed, IntKind.bits] at h
  simp at h; omega
theorem rd_int : Reads Try.prog 3 Int (fun n => [PVal.k .i64 n]) (fun n => -9223372036854775808 ≤ n ∧ n ≤ 9223372036854775807) := (reads_int inferInstance).imp' id (fun _ _ => rfl) (fun _ h => i64_of h)
theorem rd_u64 : Reads Try.prog 27 Int (fun n => [PVal.k .u64 n]) (fun n => 0 ≤ n ∧ n < 18446744073709551616) := (reads_int inferInstance).imp' id (fun _ _ => rfl) (fun _ h => u64_of h)
def vRow (v : List Int) : List PVal := v.map fun n => PVal.k .u64 n
theorem rd_vec : Reads Try.prog 29 (List Int) vRow (fun v => v.length = 8 ∧ ∀ n ∈ v, 0 ≤ n ∧ n < 18446744073709551616) :=
  (reads_array (inferInstance : TI Try.prog 29 _ _ _) (inferInstance : TI Try.prog 27 _ _ _) rfl rd_u64).imp' id (fun l h => by
    clear h
    unfold vRow
    show List.map _ l = _
    induction l with
    | nil => rfl
    | cons b l ih => simp [ih]) (fun l h => h)
/-- an entry that Go can hold -/
def EB (e : Ent) : Prop := (-9223372036854775808 ≤ e.1 ∧ e.1 ≤ 9223372036854775807) ∧ (-9223372036854775808 ≤ e.2.1 ∧ e.2.1 ≤ 9223372036854775807) ∧ (0 ≤ e.2.2.1 ∧ e.2.2.1 < 18446744073709551616) ∧ (-9223372036854775808 ≤ e.2.2.2 ∧ e.2.2.2 ≤ 9223372036854775807)
def DB (d : Dot) : Prop := (-9223372036854775808 ≤ d.1 ∧ d.1 ≤ 9223372036854775807) ∧ (0 ≤ d.2 ∧ d.2 < 18446744073709551616)
theorem rd_ent : Reads Try.prog 63 Ent (fun e => eR e) EB :=
  (reads_struct (inferInstance : TI Try.prog 63 _ _ _)
    (readsFs_cons (inferInstance : TI Try.prog 3 _ _ _) rd_int (readsFs_cons (inferInstance : TI Try.prog 3 _ _ _) rd_int (readsFs_cons (inferInstance : TI Try.prog 27 _ _ _) rd_u64 (readsFs_cons (inferInstance : TI Try.prog 3 _ _ _) rd_int (readsFs_nil rfl)))))).imp
    (fun x => (x.1, x.2.1, x.2.2.1, x.2.2.2.1)) (fun x => rfl) (fun x h => ⟨h.1, h.2.1, h.2.2.1, h.2.2.2.1⟩)
theorem rd_dot : Reads Try.prog 83 Dot (fun d => dR d) DB :=
  (reads_struct (inferInstance : TI Try.prog 83 _ _ _)
    (readsFs_cons (inferInstance : TI Try.prog 3 _ _ _) rd_int (readsFs_cons (inferInstance : TI Try.prog 27 _ _ _) rd_u64 (readsFs_nil rfl)))).imp
    (fun x => (x.1, x.2.1)) (fun x => rfl) (fun x h => ⟨h.1, h.2.1⟩)
theorem rd_ents : Reads Try.prog 30 (List Ent) (fun l => [.sl 4 (l.map fun e => eR e) false]) (fun l => l.length ≤ maxLen ∧ ∀ e ∈ l, EB e) :=
  reads_slice inferInstance inferInstance (by decide) rd_ent
/-- a cart that Go can hold -/
structure CIn (x : Crt) : Prop where
  v8 : x.1.length = 8
  vb : ∀ n ∈ x.1, 0 ≤ n ∧ n < 18446744073709551616
  len : x.2.length ≤ maxLen
  eb : ∀ e ∈ x.2, EB e
def cRow (x : Crt) : List PVal := vRow x.1 ++ [.sl 4 (x.2.map fun e => eR e) false]
theorem rd_cart : Reads Try.prog 32 Crt cRow CIn :=
  (reads_struct (inferInstance : TI Try.prog 32 _ _ _)
    (readsFs_cons (inferInstance : TI Try.prog 29 _ _ _) rd_vec (readsFs_cons (inferInstance : TI Try.prog 30 _ _ _) rd_ents (readsFs_nil rfl)))).imp
    (fun x => (x.1, x.2.1)) (fun x => by simp [cRow]) (fun x h => ⟨h.1.1, h.1.2, h.2.1.1, h.2.1.2⟩)
theorem c_arg {x : Crt} (h : CIn x) : argAV true (cRow x) = cV x.1 x.2 false := by
  obtain ⟨v, l⟩ := x
  have h8 : v.length = 8 := h.v8
  match v, h8 with
  | [a0, a1, a2, a3, a4, a5, a6, a7], _ => rfl
theorem CIn.qb {x : Crt} (h : CIn x) : ∀ e ∈ x.2, QB e := fun e he => (h.eb e he).2.2.2
end Go.Proofs.Ytbfjcohocedoaaa.Ca
