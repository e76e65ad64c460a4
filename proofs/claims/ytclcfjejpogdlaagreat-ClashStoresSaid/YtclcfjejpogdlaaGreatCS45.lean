/- packs: how the laws' arguments read; clashes: ClashStores over what was read -/
import Derived.Test.YtclcfjejpogdlaaGreatCS44
import Derived.Test.YtclcfjejpogdlaaGreatCS29
namespace Go.Proofs.YtclcfjejpogdlaaGreat.Wi
open Go Go.RowKit Go.Aw Go.Aw.Cart Go.Proofs.YtclcfjejpogdlaaGreat.Ca
set_option linter.unusedVariables false
set_option linter.unusedSimpArgs false
theorem rd_keyP : Reads Tryz.prog 9 (List Nat) (fun k => [.v (.string (strOf k))]) (fun k => okB k ∧ k.length ≤ 9223372036854775807) :=
  (reads_string inferInstance).imp' bytesOf (fun s _ => by rw [strOf_bytesOf]) (fun s h => ⟨bytesOf_ok s, by
    have e : (bytesOf s).length = s.size := by rw [← strOf_size, strOf_bytesOf]
    have h' : s.size ≤ 2 ^ 63 - 1 := h
    omega⟩)
theorem vRow_8 {v : List Int} (h : v.length = 8) : vRow v = [.k .u64 (v.getD 0 default), .k .u64 (v.getD 1 default), .k .u64 (v.getD 2 default), .k .u64 (v.getD 3 default), .k .u64 (v.getD 4 default), .k .u64 (v.getD 5 default), .k .u64 (v.getD 6 default), .k .u64 (v.getD 7 default)] := by
  match v, h with
  | [a0, a1, a2, a3, a4, a5, a6, a7], _ => rfl
theorem rd_kd : Reads Tryz.prog 148 Kd (fun k => kR k) KdI :=
  (reads_struct (inferInstance : TI Tryz.prog 148 _ _ _)
    (readsFs_cons (inferInstance : TI Tryz.prog 9 _ _ _) rd_keyP (readsFs_cons (inferInstance : TI Tryz.prog 146 _ _ _) rd_cart (readsFs_nil rfl)))).imp'
    (fun x => (x.1, x.2.1)) (fun x h => by
      have e := vRow_8 h.2.1.v8
      simp only [cRow, e]; rfl) (fun x h => ⟨h.1.1, h.1.2, ⟨h.2.1.v8, h.2.1.vb⟩, h.2.1.len⟩)
theorem rd_kds : Reads Tryz.prog 22 (List Kd) (fun l => [.sl 10 (l.map fun k => kR k) false]) (fun l => l.length ≤ maxLen ∧ ∀ k ∈ l, KdI k) :=
  reads_slice inferInstance inferInstance (by decide) rd_kd
end Go.Proofs.YtclcfjejpogdlaaGreat.Wi

