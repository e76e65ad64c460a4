/- packs: alive of 10 (under way) -/
import Derived.Test.YtlaeldgebecppaaGreatPL41
import Derived.Test.YtlaeldgebecppaaGreatPL36
namespace Go.Aw
open Go Go.RowKit
/-- a contract, handed what says as much -/
theorem PCall.weak {P : Program} {f : FuncId} {args args' : List AV} {r : AV} (h : PCall P f args r) (ha : All2 (fun a b => ∀ X v, AV.holds Mu.none X a v → AV.holds Mu.none X b v) args' args) : PCall P f args' r := fun w S vs hS hv =>
  h w S vs hS ⟨by rw [← ha.1, hv.1], fun i a v hi hvi => by
    have hil : i < args'.length := by rw [ha.1]; exact (List.getElem?_eq_some_iff.1 hi).1
    exact ha.2 i args'[i] a (List.getElem?_eq_getElem hil) hi _ _ (hv.2 i _ v (List.getElem?_eq_getElem hil) hvi)⟩
theorem weak_same {a : AV} : ∀ X v, AV.holds Mu.none X a v → AV.holds Mu.none X a v := fun _ _ h => h
theorem weak_nil {es : Nat} {ex : Bool} : ∀ X v, AV.holds Mu.none X (.p (.v (.slice none 0 0))) v → AV.holds Mu.none X (.p (.sl es [] ex)) v := fun X v h => Ent.nil Mu.none X v h
/-- an aggregate whose last cell is nil -/
theorem weak_last {cs : List AC} {es : Nat} {ex : Bool} : ∀ X v, AV.holds Mu.none X (.a (cs ++ [.p (.v (.slice none 0 0))])) v → AV.holds Mu.none X (.a (cs ++ [.p (.sl es [] ex)])) v := by
  rintro X v ⟨arr, rfl, h⟩
  obtain ⟨u, w, rfl, h1, h2⟩ := h.split_inv
  obtain ⟨y, w, rfl, h3, h4⟩ := h2.cons_inv
  obtain rfl := h4.nil_inv
  refine ⟨_, rfl, h1.append (.cons ?_ .nil)⟩
  obtain ⟨rfl, _⟩ := h3
  exact ⟨none, 0, rfl, Nat.le_refl _, by simp [maxLen], fun _ => rfl, rfl, rfl⟩
end Go.Aw
namespace Go.Proofs.YtlaeldgebecppaaGreat.Wi
open Go Go.RowKit Go.Aw Go.Aw.Cart Go.Proofs.YtlaeldgebecppaaGreat.Ca
set_option linter.unusedVariables false
set_option linter.unusedSimpArgs false
set_option maxRecDepth 8000
set_option maxHeartbeats 4000000
open WE
abbrev cA (ex : Bool) : List AC := [.p (.k .u64 1), .p (.k .u64 0), .p (.k .u64 0), .p (.k .u64 0), .p (.k .u64 0), .p (.k .u64 0), .p (.k .u64 0), .p (.k .u64 0), .p (.sl 4 [[.i 5, .i 1, .k .u64 1, .i 2]] ex)]
abbrev cB (ex : Bool) : List AC := [.p (.k .u64 0), .p (.k .u64 0), .p (.k .u64 0), .p (.k .u64 0), .p (.k .u64 0), .p (.k .u64 0), .p (.k .u64 0), .p (.k .u64 0), .p (.sl 4 [[.i 5, .i 1, .k .u64 1, .i 2]] ex)]
abbrev cZ : List AC := [.p (.k .u64 0), .p (.k .u64 0), .p (.k .u64 0), .p (.k .u64 0), .p (.k .u64 0), .p (.k .u64 0), .p (.k .u64 0), .p (.k .u64 0), .p (.v (.slice none 0 0))]
theorem ok98 : okB [98] := by intro c hc; simp at hc; omega
theorem ok97 : okB [97] := by intro c hc; simp at hc; omega
theorem kdi10 : ∀ k ∈ l10, KdI k := by
  intro k hk
  simp only [l10, List.mem_cons, List.not_mem_nil, or_false] at hk
  rcases hk with rfl | rfl
  · exact ⟨ok97, by decide, zeroV_ok, by decide⟩
  · exact ⟨ok98, by decide, c10_vec, by decide⟩
theorem w1 (B : List Nat) (hB : B = cartB c10) : PCall Tryz.prog 75 [.a (cA true)] (.tup [.one (.p (.sl 1 (B.map bR) false)), .one (.p (.i 0))]) := by rw [hB]; exact write_ok c10.1 c10.2 true c10_vec c10_right
theorem w2 : PCall Tryz.prog 75 [.a (cB true)] (.tup [.one (.p (.sl 1 (([] : List Nat).map bR) false)), .one (.p (.i 3))]) := write_no zeroV c10.2 true rfl (by decide) c10_no
theorem w3 (Z : List Nat) (hZ : Z = cartB (zeroV, [])) : PCall Tryz.prog 75 [.a cZ] (.tup [.one (.p (.sl 1 (Z.map bR) false)), .one (.p (.i 0))]) := by
  rw [hZ]
  exact (write_ok zeroV [] false zeroV_ok z10_right).weak (.cons (weak_last (cs := v8L zeroV)) .nil)
theorem r1 (B : List Nat) (hB : B = cartB c10) : PCall Tryz.prog 76 [.p (.sl 1 (B.map bR) false)] (.tup [.agg (cA false), .one (.p (.i 0))]) := by
  have h := read_w (cartB c10) false (by rw [c10_bytes]; intro c hc; simp at hc; omega) (by rw [c10_bytes]; decide)
  rw [read_back c10_right c10_vec] at h
  rw [hB]
  exact h
theorem l1 (L : List Kd) (hL : L = [([98], c10)]) : PCall Tryz.prog 77 [.p (.v (.slice none 0 0)), .p (.v (.string { data := #[98] })), .a (cA true)] (.p (.sl 10 (L.map kR) false)) := by
  have h := with_w [] false ([98], c10) true (by decide) (fun k hk => by cases hk) ok98 (by decide)
  rw [w10a] at h
  rw [hL]
  exact h.weak (.cons weak_nil (.cons weak_same (.cons weak_same .nil)))
theorem l2 (L L2 : List Kd) (hL : L = [([98], c10)]) (hL2 : L2 = l10) : PCall Tryz.prog 77 [.p (.sl 10 (L.map kR) false), .p (.v (.string { data := #[97] })), .a cZ] (.p (.sl 10 (L2.map kR) false)) := by
  have h := with_w [([98], c10)] false ([97], (zeroV, [])) false (by decide) (fun k hk => by simp only [List.mem_cons, List.not_mem_nil, or_false] at hk; rw [hk]; exact ok98) ok97 (by decide)
  rw [w10b] at h
  rw [hL, hL2]
  exact h.weak (.cons weak_same (.cons weak_same (.cons (weak_last (cs := v8L zeroV)) .nil)))
theorem s1 (L2 : List Kd) (S : List Nat) (hL2 : L2 = l10) (hS : S = listB l10) : PCall Tryz.prog 28 [.p (.sl 10 (L2.map kR) false)] (.tup [.one (.p (.sl 1 (S.map bR) false)), .one (.p (.i 0))]) := by
  rw [hL2, hS]; exact writeAll_ok l10 false (keys_iff.2 l10_ok) kdi10
theorem s2 (L2 : List Kd) (S : List Nat) (hL2 : L2 = l10) (hS : S = listB l10) (hb : okB (listB l10)) (hl : (listB l10).length ≤ 1000) : PCall Tryz.prog 29 [.p (.sl 1 (S.map bR) false)] (.tup [.one (.p (.sl 10 (L2.map kR) false)), .one (.p (.i 0))]) := by
  have h := readAll_w (listB l10) false hb (by omega)
  rw [readL_back l10_ok fun k hk => (kdi10 k hk).vec] at h
  rw [hL2, hS]; exact h
theorem f1 (L2 : List Kd) (hL2 : L2 = l10) : PCall Tryz.prog 78 [.p (.sl 10 (L2.map kR) false), .p (.v (.string { data := #[98] }))] (.tup [.agg (cA false), .one (.p (.b true))]) := by
  have h := find_w l10 false [98] (by decide) (fun k hk => (kdi10 k hk).key) ok98
  rw [f10] at h
  rw [hL2]; exact h
theorem l10_bytes : okB (listB l10) ∧ (listB l10).length ≤ 1000 := ⟨by intro c hc; revert c hc; decide, by decide⟩
end Go.Proofs.YtlaeldgebecppaaGreat.Wi
