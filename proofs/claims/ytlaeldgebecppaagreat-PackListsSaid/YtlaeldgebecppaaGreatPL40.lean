/- THE ABSTRACT WALK, part 32: a part of an element of an own slice is written. Nothing here speaks of a program. -/
import Derived.Test.YtlaeldgebecppaaGreatPL38
namespace Go.Aw
open Go Go.RowKit
set_option linter.unusedVariables false
set_option linter.unusedSimpArgs false
theorem lop_store_rowp {C : Ctx} {o : Oper} {σ : St} {T : TypeId} {x y : Operand} {k : TK} {sz by_ : Nat} [hT : TI C.P T k sz by_] {ob g n ty i es d : Nat} {rows : List (List PVal)} {old part : List PVal} {s : SV} (ho : o.op = .store T x y) (hdst : o.dst = none) (hx : σ.look x = .o (.ptr ob g (i * es + d))) (hy : σ.look y = .s s)
    (hsc : s.cells = part.map .p) (hrl : part.length = sz) (hm : σ.mem ob = (n, some (.buf ty es rows))) (hn : n = g + 1) (hi : rows[i]? = some old) (hde : d + sz ≤ es) : LOp C o σ ⟨.un, [(ob, (n, some (.buf ty es (rows.set i (old.take d ++ part ++ old.drop (d + sz))))))]⟩ (fun z => z == ob) :=
  lop_same (by simp) (by rw [hdst]; rfl) hm fun τ a w G g0 m hl' hm' h hng hmm hh => by
    subst hn
    obtain rfl : g = g0 := by omega
    obtain ⟨b, c', h1, h2⟩ := look_of h ((hl' x (by simp [ho, Op.operands])).trans hx)
    have h3 : s.holds G.μ ⟨w, G.S⟩ (a.eval y) := look_of h ((hl' y (by simp [ho, Op.operands])).trans hy)
    obtain ⟨hes, hmax, hrl2, hh⟩ := hh
    rw [h1] at hmm; obtain rfl := Option.some.inj hmm
    have hil : i < rows.length := (List.getElem?_eq_some_iff.1 hi).1
    rcases hh with ⟨h4, _⟩ | ⟨b', arr, h4, h5, h6, h7, h8⟩
    · simp at h4
    · simp only [Option.some.injEq] at h4; subst h4
      have h9 := h3.cells
      rw [hsc] at h9
      have hvl : (a.eval y).cells.toList.length = sz := by rw [← h9.1]; simpa using hrl
      have hone : ∀ u ∈ (a.eval y).cells.toList, u.oneCell' = true := fun u hu => by
        obtain ⟨j, hj, hu'⟩ := List.mem_iff_getElem.1 hu
        have hj' : j < (part.map AC.p).length := by rw [h9.1]; exact hj
        exact (h9.2 j (part.map AC.p)[j] u (by simp [hj']) (by rw [← hu']; exact List.getElem?_eq_getElem _)).one
      have hmul : i * es + es ≤ arr.size := by
        simp only at h7 hrl2
        rw [h7]
        calc i * es + es = (i + 1) * es := by rw [Nat.add_mul, Nat.one_mul]
          _ ≤ c' * es := Nat.mul_le_mul_right _ (by omega)
      have hsz : arr.toList.length = arr.size := Array.length_toList
      have h6' : w.heap[b]? = some (.cells arr.toList.toArray ty (0, 0)) := by simpa using h6
      have hr := run_storeVar hT h6' (off := i * es + d) (v := a.eval y) (by rw [hsz]; omega) (by simpa using hvl) hone
      have hle : Wd.le ⟨w, G.S⟩ ⟨w.setRow b (arr.toList.take (i * es + d) ++ (a.eval y).cells.toList ++ arr.toList.drop (i * es + d + sz)).toArray, G.S⟩ := fun k hk =>
        ⟨hk, setRow_other w b k _ fun e => h.stab ob b (by rw [h5]; simp) (e ▸ hk)⟩
      have htl : (arr.toList.take (i * es + d)).length = i * es + d := by rw [List.length_take]; omega
      have hget : ∀ (t : Nat) v, arr[t]? = some v → (t < i * es + d ∨ i * es + d + sz ≤ t) → (arr.toList.take (i * es + d) ++ (a.eval y).cells.toList ++ arr.toList.drop (i * es + d + sz))[t]? = some v := fun t v hv ht => by
        rw [List.append_assoc]
        rcases ht with ht | ht
        · rw [List.getElem?_append_left (by omega), List.getElem?_take, if_pos ht]; simpa using hv
        · rw [List.getElem?_append_right (by omega), htl, List.getElem?_append_right (by omega), hvl, List.getElem?_drop]
          rw [show i * es + d + sz + (t - (i * es + d) - sz) = t by omega]; simpa using hv
      refine ⟨.skip, undef, w.setRow b (arr.toList.take (i * es + d) ++ (a.eval y).cells.toList ++ arr.toList.drop (i * es + d + sz)).toArray, ?_, .inr ⟨rfl, rfl⟩, setRow_frame.1, setRow_frame.2.1, setRow_frame.2.2.1, setRow_frame.2.2.2,
        fun k _ hk => setRow_other w b k _ fun e => hk (by rw [h5, e]; simp), ⟨hes, hmax, by simpa using hrl2, .inr ⟨b, _, rfl, h5, setRow_heap w b _ _ ty _ h6', ?_, ?_⟩⟩, trivial⟩
      · simp only [execOp, ho, h2, Instr.storeAt, Instr.sureAddr, Sem.run_bind, Sem.run_pure, Result.andThen_ok, hr]
      · simp only [List.size_toArray, List.length_append, List.length_take, List.length_drop, Array.length_toList, hvl]
        rw [Nat.min_eq_left (by omega)]
        simp only at h7; omega
      · intro q r hq
        by_cases hqi : q = i
        · subst hqi
          rw [List.getElem?_set_self hil] at hq
          obtain rfl := Option.some.inj hq
          obtain ⟨e1, e2⟩ := h8 q old hi
          have hol : (old.take d).length = d := by rw [List.length_take]; omega
          refine ⟨by rw [List.length_append, List.length_append, hol, hrl, List.length_drop]; omega, fun j p hp => ?_⟩
          simp only [Nat.zero_add, List.getElem?_toArray]
          by_cases hj1 : j < d
          · rw [List.append_assoc, List.getElem?_append_left (by omega), List.getElem?_take, if_pos hj1] at hp
            obtain ⟨v, hv, hpv⟩ := e2 j p hp
            rw [Nat.zero_add] at hv
            exact ⟨v, hget _ v hv (.inl (by omega)), p.mono hle hpv⟩
          · by_cases hj2 : j < d + sz
            · rw [List.append_assoc, List.getElem?_append_right (by omega), hol, List.getElem?_append_left (by omega)] at hp
              obtain ⟨v, hv, hpv⟩ := h9.get (i := j - d) (a := .p p) (by simp [hp])
              refine ⟨v, ?_, p.mono hle hpv⟩
              rw [List.append_assoc, List.getElem?_append_right (by omega), htl, List.getElem?_append_left (by omega), ← hv]
              congr 1; omega
            · rw [List.append_assoc, List.getElem?_append_right (by omega), hol, List.getElem?_append_right (by omega), hrl, List.getElem?_drop] at hp
              rw [show d + sz + (j - d - sz) = j by omega] at hp
              obtain ⟨v, hv, hpv⟩ := e2 j p hp
              rw [Nat.zero_add] at hv
              exact ⟨v, hget _ v hv (.inr (by omega)), p.mono hle hpv⟩
        · rw [List.getElem?_set_ne (fun e => hqi e.symm)] at hq
          obtain ⟨e1, e2⟩ := h8 q r hq
          refine ⟨e1, fun j p hp => ?_⟩
          obtain ⟨v, hv, hpv⟩ := e2 j p hp
          have hj : j < es := by rw [← e1]; exact (List.getElem?_eq_some_iff.1 hp).1
          simp only [Nat.zero_add, List.getElem?_toArray]
          rw [Nat.zero_add] at hv
          refine ⟨v, hget _ v hv ?_, p.mono hle hpv⟩
          rcases Nat.lt_or_ge q i with hlt | hge
          · have : q * es + es ≤ i * es := by
              calc q * es + es = (q + 1) * es := by rw [Nat.add_mul, Nat.one_mul]
                _ ≤ i * es := Nat.mul_le_mul_right _ hlt
            left; omega
          · have : i * es + es ≤ q * es := by
              calc i * es + es = (i + 1) * es := by rw [Nat.add_mul, Nat.one_mul]
                _ ≤ q * es := Nat.mul_le_mul_right _ (by omega)
            right; omega
end Go.Aw
