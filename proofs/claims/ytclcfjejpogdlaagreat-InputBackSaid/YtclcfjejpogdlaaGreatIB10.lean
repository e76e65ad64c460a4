/- carts: of dots that stand in order the first of each run; THE ABSTRACT WALK, part 29: slices.SortFunc at elements of k cells, as a contract on an own slice: out of the kit's own theorem. Nothing here speaks of a program.; carts: sorting entries and dots; carts: values, one behind the other // carts: entries collected, and in order // carts: entries in order -/
import Derived.Test.YtclcfjejpogdlaaGreatIB06
import Derived.Test.YtclcfjejpogdlaaGreatIB08
import Derived.Test.YtclcfjejpogdlaaGreatIB09
import Derived.Test.YtclcfjejpogdlaaGreatIB04
import Derived.Shelf.SlSortCmp.NoneTotal
import Derived.Test.YtclcfjejpogdlaaGreatLy
namespace Go.Proofs.YtclcfjejpogdlaaGreat.Ca
open Go Go.RowKit Go.Aw Go.Aw.Cart
set_option linter.unusedVariables false
set_option linter.unusedSimpArgs false
set_option maxRecDepth 8000
set_option maxHeartbeats 4000000
theorem vEqD (a b : Dot) : vEqB [.int .i64 a.1, .int .u64 a.2] [.int .i64 b.1, .int .u64 b.2] = decide (a = b) := by
  obtain ⟨a1, a2⟩ := a
  obtain ⟨b1, b2⟩ := b
  rw [Bool.eq_iff_iff]
  simp [vEqB, vEq]
theorem compactD_o (n : Nat) (l : List Dot) (h : l.length ≤ 1000000000) : OCall Tryz.prog 297 [.o (.osl 1000 n 2 0 l.length)] (memL [(1000, (n + 1, some (.buf 317 2 (l.map dR))))]) (.o (.osl 1000 n 2 0 (comp l).length)) (memL [(1000, (n + 1, some (.buf 317 2 ((comp l).map dR))))]) := by
  refine ocall_of1 Tryz.func297 rfl (fun w0 F S0 M0 => ?_)
  obtain ⟨L, hL⟩ : ∃ L, L = (comp l).length := ⟨_, rfl⟩
  obtain ⟨A, hA⟩ : ∃ A, A = comp l := ⟨_, rfl⟩
  rw [← hL, ← hA]
  by_cases h2 : l.length < 2
  · have d1 : decide ((l.length : Int) < 2) = true := decide_eq_true (by omega)
    have e : comp l = l := by
      have : l = l.take 1 := by rw [List.take_of_length_le (by omega)]
      rw [this]; exact comp_one l
    rw [e] at hL hA
    subst hL hA
    as_aux_lemma =>
      repeat' (first | refine rnQ ?_ | refine rnSQ ?_ | refine rnG ?_ | refine rnU ?_ | ((fail_if_success (refine rnKn ?_)); refine rnP ?_ ?_ <;> (intro hq; try (have hq' := hq; simp only [hqs] at hq'))) | refine rkQ ?_ | refine rkSQ ?_ | refine rkF ?_ | refine rkU ?_ | ((fail_if_success (refine rkKn ?_)); refine rkP ?_ ?_ <;> (intro hq; try (have hq' := hq; simp only [hqs] at hq'))) | refine stp ?_ | refine aws_draws [] mixed (by kernel_rfl) ?_ | refine ifT ?_ | refine ifF ?_ | (refine ifQ ?_ ?_ <;> (try (intro hn))) | (refine ifB ?_ ?_ <;> (intro hq; try (have hq' := hq; simp only [hqs] at hq'))))
      exact RetO.mk (ot1 rfl rfl (.one (.kosl rfl)) rfl) ⟨.buf, trivial⟩
  have d1 : decide ((l.length : Int) < 2) = false := decide_eq_false (by omega)
  repeat' (first | refine rnQ ?_ | refine rnSQ ?_ | refine rnG ?_ | refine rnU ?_ | ((fail_if_success (refine rnKn ?_)); refine rnP ?_ ?_ <;> (intro hq; try (have hq' := hq; simp only [hqs] at hq'))) | refine rkQ ?_ | refine rkSQ ?_ | refine rkF ?_ | refine rkU ?_ | ((fail_if_success (refine rkKn ?_)); refine rkP ?_ ?_ <;> (intro hq; try (have hq' := hq; simp only [hqs] at hq'))) | refine stp ?_ | refine aws_draws [] mixed (by kernel_rfl) ?_ | refine ifT ?_ | refine ifF ?_ | (refine ifQ ?_ ?_ <;> (try (intro hn))) | (refine ifB ?_ ?_ <;> (intro hq; try (have hq' := hq; simp only [hqs] at hq'))))
  refine aws_loopS [2, 3, 4, 5, 10, 11, 12, 13, 14, 15, 16, 17, 18, 19, 20, 21, 22, 23, 24, 25, 26, 27, 28, 29, 30, 31, 32, 33, 34, 35, 36, 37, 38, 39, 40, 41, 42, 43, 44, 45, 46, 47, 48, 49, 50, 51, 52, 53, 54, 55, 56, 57, 58, 59] [] (fun (k : Nat) => [(3, .p (.i k))]) (fun _ => []) (fun k => 1 ≤ k ∧ k ≤ l.length ∧ comp (l.take k) = l.take k) (fun k => l.length - k) 1 ⟨Nat.le_refl _, by omega, comp_one l⟩ (by exact knA) (by exact knA) ?_
  rintro k β γ ⟨hk1, hkl, hkc⟩
  by_cases hk : k < l.length
  · have hd : decide ((k : Int) < (l.length : Int)) = true := decide_eq_true (by omega)
    have hct := comp_take hk hk1
    have hv0 := vEqD (l.getD (k : Int).toNat default) (l.getD ((k : Int) - 1).toNat default)
    by_cases hv : l.getD (k : Int).toNat default = l.getD ((k : Int) - 1).toNat default
    · rw [decide_eq_true hv] at hv0
      have hv' : l.getD k default = l.getD (k - 1) default := by rw [Int.toNat_natCast, show ((k : Int) - 1).toNat = k - 1 by omega] at hv; exact hv
      rw [if_pos hv', List.append_nil, hkc] at hct
      repeat' (first | refine rnQ ?_ | refine rnSQ ?_ | refine rnG ?_ | refine rnU ?_ | ((fail_if_success (refine rnKn ?_)); refine rnP ?_ ?_ <;> (intro hq; try (have hq' := hq; simp only [hqs] at hq'))) | refine rkQ ?_ | refine rkSQ ?_ | refine rkF ?_ | refine rkU ?_ | ((fail_if_success (refine rkKn ?_)); refine rkP ?_ ?_ <;> (intro hq; try (have hq' := hq; simp only [hqs] at hq'))) | refine stp ?_ | refine aws_draws [] mixed (by kernel_rfl) ?_ | refine ifT ?_ | refine ifF ?_ | (refine ifQ ?_ ?_ <;> (try (intro hn))) | (refine ifB ?_ ?_ <;> (intro hq; try (have hq' := hq; simp only [hqs] at hq'))))
      refine aws_loopS [3, 5, 29, 30, 31, 32, 33, 34, 35, 36, 37, 38, 39, 40, 41, 42, 43, 44, 45, 46, 47, 48, 49, 50, 51, 52, 53] [1000] (fun (x : Nat × Nat × List Dot) => [(5, .p (.i x.1)), (3, .p (.i x.2.1))]) (fun x => [(1000, (n + 1, some (.buf 317 2 (x.2.2.map dR))))])
        (fun x => 1 ≤ x.1 ∧ k + x.1 ≤ l.length ∧ k ≤ x.2.1 ∧ x.2.1 < k + x.1 ∧ x.2.2.length = l.length ∧ x.2.2.take x.2.1 = comp (l.take (k + x.1)) ∧ ∀ i, k + x.1 ≤ i + 1 → x.2.2.getD i default = l.getD i default)
        (fun x => l.length - (k + x.1)) (1, k, l) ⟨Nat.le_refl _, by dsimp only; omega, Nat.le_refl _, by dsimp only; omega, rfl, hct.symm, fun i _ => rfl⟩ (by exact knA) (by exact knA) ?_
      rintro ⟨j, q, m⟩ β2 γ2 ⟨hj1, hjl, hkq, hqj, hml, hmc, hmr⟩
      simp only at hj1 hjl hkq hqj hml hmc hmr
      dsimp only
      by_cases hjn : k + j < l.length
      · have hd2 : decide ((j : Int) < ((l.length - (k : Int).toNat : Nat) : Int)) = true := decide_eq_true (by omega)
        have hct2 := comp_take hjn (by omega)
        have hm0 : m.getD ((k : Int).toNat + (j : Int).toNat) default = l.getD (k + j) default := by rw [Int.toNat_natCast, Int.toNat_natCast]; exact hmr _ (by omega)
        have hm1 : m.getD ((k : Int).toNat + ((j : Int) - 1).toNat) default = l.getD (k + j - 1) default := by rw [Int.toNat_natCast, show k + ((j : Int) - 1).toNat = k + j - 1 by omega]; exact hmr _ (by omega)
        have hv1 := vEqD (m.getD ((k : Int).toNat + (j : Int).toNat) default) (m.getD ((k : Int).toNat + ((j : Int) - 1).toNat) default)
        by_cases hw : m.getD ((k : Int).toNat + (j : Int).toNat) default = m.getD ((k : Int).toNat + ((j : Int) - 1).toNat) default
        · rw [decide_eq_true hw] at hv1
          have hv2 : (!vEqB [.int .i64 (m.getD ((k : Int).toNat + (j : Int).toNat) default).1, .int .u64 (m.getD ((k : Int).toNat + (j : Int).toNat) default).2] [.int .i64 (m.getD ((k : Int).toNat + ((j : Int) - 1).toNat) default).1, .int .u64 (m.getD ((k : Int).toNat + ((j : Int) - 1).toNat) default).2]) = false := by rw [hv1]; rfl
          rw [hm0, hm1] at hw
          rw [if_pos hw, List.append_nil] at hct2
          as_aux_lemma =>
            repeat' (first | refine rnQ ?_ | refine rnSQ ?_ | refine rnG ?_ | refine rnU ?_ | ((fail_if_success (refine rnKn ?_)); refine rnP ?_ ?_ <;> (intro hq; try (have hq' := hq; simp only [hqs] at hq'))) | refine rkQ ?_ | refine rkSQ ?_ | refine rkF ?_ | refine rkU ?_ | ((fail_if_success (refine rkKn ?_)); refine rkP ?_ ?_ <;> (intro hq; try (have hq' := hq; simp only [hqs] at hq'))) | refine stp ?_ | refine aws_draws [] mixed (by kernel_rfl) ?_ | refine ifT ?_ | refine ifF ?_ | (refine ifQ ?_ ?_ <;> (try (intro hn))) | (refine ifB ?_ ?_ <;> (intro hq; try (have hq' := hq; simp only [hqs] at hq'))))
            exact ⟨(j + 1, q, m), _, by dsimp only; omega, ⟨by dsimp only; omega, by dsimp only; omega, hkq, by dsimp only; omega, hml, by dsimp only; rw [hmc, ← Nat.add_assoc, hct2], fun i hi => hmr i (by dsimp only at hi; omega)⟩, .refl, by exact frA⟩
        · rw [decide_eq_false hw] at hv1
          have hv2 : (!vEqB [.int .i64 (m.getD ((k : Int).toNat + (j : Int).toNat) default).1, .int .u64 (m.getD ((k : Int).toNat + (j : Int).toNat) default).2] [.int .i64 (m.getD ((k : Int).toNat + ((j : Int) - 1).toNat) default).1, .int .u64 (m.getD ((k : Int).toNat + ((j : Int) - 1).toNat) default).2]) = true := by rw [hv1]; rfl
          rw [hm0, hm1] at hw
          rw [if_neg hw] at hct2
          as_aux_lemma =>
            repeat' (first | refine rnQ ?_ | refine rnSQ ?_ | refine rnG ?_ | refine rnU ?_ | ((fail_if_success (refine rnKn ?_)); refine rnP ?_ ?_ <;> (intro hq; try (have hq' := hq; simp only [hqs] at hq'))) | refine rkQ ?_ | refine rkSQ ?_ | refine rkF ?_ | refine rkU ?_ | ((fail_if_success (refine rkKn ?_)); refine rkP ?_ ?_ <;> (intro hq; try (have hq' := hq; simp only [hqs] at hq'))) | refine stp ?_ | refine aws_draws [] mixed (by kernel_rfl) ?_ | refine ifT ?_ | refine ifF ?_ | (refine ifQ ?_ ?_ <;> (try (intro hn))) | (refine ifB ?_ ?_ <;> (intro hq; try (have hq' := hq; simp only [hqs] at hq'))))
            refine ⟨(j + 1, q + 1, m.set (q : Int).toNat (m.getD ((k : Int).toNat + (j : Int).toNat) default)), _, by dsimp only; omega, ⟨by dsimp only; omega, by dsimp only; omega, by dsimp only; omega, by dsimp only; omega, by dsimp only; rw [List.length_set]; exact hml, ?_, fun i hi => ?_⟩, .refl, by exact frA⟩
            · dsimp only
              rw [hm0, ← Nat.add_assoc, hct2, ← hmc, Int.toNat_natCast, List.take_succ_eq_append_getElem (by rw [List.length_set]; omega), List.getElem_set_self, List.take_set_of_le (Nat.le_refl _)]
            · dsimp only at hi ⊢
              rw [List.getD_eq_getElem?_getD, List.getElem?_set_ne (by rw [Int.toNat_natCast]; omega), ← List.getD_eq_getElem?_getD]
              exact hmr i (by omega)
      · have hd2 : decide ((j : Int) < ((l.length - (k : Int).toNat : Nat) : Int)) = false := decide_eq_false (by omega)
        have e0 : l.take (k + j) = l := List.take_of_length_le (by omega)
        rw [e0] at hmc
        have hA' : A = m.take (q : Int).toNat := by rw [hA, ← hmc, Int.toNat_natCast]
        have hL' : L = (q : Int).toNat := by rw [hL, ← hmc, List.length_take, Int.toNat_natCast]; omega
        rw [hA', hL']
        as_aux_lemma =>
          repeat' (first | refine rnQ ?_ | refine rnSQ ?_ | refine rnG ?_ | refine rnU ?_ | ((fail_if_success (refine rnKn ?_)); refine rnP ?_ ?_ <;> (intro hq; try (have hq' := hq; simp only [hqs] at hq'))) | refine rkQ ?_ | refine rkSQ ?_ | refine rkF ?_ | refine rkU ?_ | ((fail_if_success (refine rkKn ?_)); refine rkP ?_ ?_ <;> (intro hq; try (have hq' := hq; simp only [hqs] at hq'))) | refine stp ?_ | refine aws_draws [] mixed (by kernel_rfl) ?_ | refine ifT ?_ | refine ifF ?_ | (refine ifQ ?_ ?_ <;> (try (intro hn))) | (refine ifB ?_ ?_ <;> (intro hq; try (have hq' := hq; simp only [hqs] at hq'))))
          exact RetO.mk (ot1 rfl rfl (.one (.kosl rfl)) rfl) ⟨.buf, trivial⟩
    · rw [decide_eq_false hv] at hv0
      have hv' : ¬ l.getD k default = l.getD (k - 1) default := by rw [Int.toNat_natCast, show ((k : Int) - 1).toNat = k - 1 by omega] at hv; exact hv
      rw [if_neg hv', hkc] at hct
      as_aux_lemma =>
        repeat' (first | refine rnQ ?_ | refine rnSQ ?_ | refine rnG ?_ | refine rnU ?_ | ((fail_if_success (refine rnKn ?_)); refine rnP ?_ ?_ <;> (intro hq; try (have hq' := hq; simp only [hqs] at hq'))) | refine rkQ ?_ | refine rkSQ ?_ | refine rkF ?_ | refine rkU ?_ | ((fail_if_success (refine rkKn ?_)); refine rkP ?_ ?_ <;> (intro hq; try (have hq' := hq; simp only [hqs] at hq'))) | refine stp ?_ | refine aws_draws [] mixed (by kernel_rfl) ?_ | refine ifT ?_ | refine ifF ?_ | (refine ifQ ?_ ?_ <;> (try (intro hn))) | (refine ifB ?_ ?_ <;> (intro hq; try (have hq' := hq; simp only [hqs] at hq'))))
        refine ⟨k + 1, _, by omega, ⟨by omega, by omega, ?_⟩, .refl, by exact frA⟩
        rw [hct, List.take_succ_eq_append_getElem hk, List.getD_eq_getElem?_getD, List.getElem?_eq_getElem hk]; rfl
  · have hd : decide ((k : Int) < (l.length : Int)) = false := decide_eq_false (by omega)
    have e0 : l.take k = l := List.take_of_length_le (by omega)
    rw [e0] at hkc
    rw [hkc] at hL hA
    subst hL hA
    as_aux_lemma =>
      repeat' (first | refine rnQ ?_ | refine rnSQ ?_ | refine rnG ?_ | refine rnU ?_ | ((fail_if_success (refine rnKn ?_)); refine rnP ?_ ?_ <;> (intro hq; try (have hq' := hq; simp only [hqs] at hq'))) | refine rkQ ?_ | refine rkSQ ?_ | refine rkF ?_ | refine rkU ?_ | ((fail_if_success (refine rkKn ?_)); refine rkP ?_ ?_ <;> (intro hq; try (have hq' := hq; simp only [hqs] at hq'))) | refine stp ?_ | refine aws_draws [] mixed (by kernel_rfl) ?_ | refine ifT ?_ | refine ifF ?_ | (refine ifQ ?_ ?_ <;> (try (intro hn))) | (refine ifB ?_ ?_ <;> (intro hq; try (have hq' := hq; simp only [hqs] at hq'))))
      exact RetO.mk (ot1 rfl rfl (.one (.kosl rfl)) rfl) ⟨.buf, trivial⟩
end Go.Proofs.YtclcfjejpogdlaaGreat.Ca
namespace Go.Aw
open Go Go.RowKit Go.Proofs Go.Shelf Go.Sort
set_option linter.unusedVariables false
set_option linter.unusedSimpArgs false
theorem grow_of {w w' : World} (h : Below w.heap.size w w') (hd : w.drawn ≤ w'.drawn) : ∃ q os, w' = Go.Sort.grow (w.drewN q) os := by
  refine ⟨w'.drawn - w.drawn, w'.heap.extract w.heap.size w'.heap.size, ?_⟩
  have hheap : w'.heap = w.heap ++ w'.heap.extract w.heap.size w'.heap.size := by
    apply Array.ext_getElem?
    intro k
    rcases Nat.lt_or_ge k w.heap.size with hk | hk
    · rw [Array.getElem?_append_left hk]; exact h.block k hk
    · rw [Array.getElem?_append_right hk, Array.getElem?_extract]
      rcases Nat.lt_or_ge k w'.heap.size with h2 | h2
      · rw [if_pos (by omega)]; congr 1; omega
      · rw [if_neg (by omega), Array.getElem?_eq_none h2]
  obtain ⟨heap', tape', drawn', os', output'⟩ := w'
  obtain ⟨h1, h2, h3, h4, h5⟩ := h
  simp only at h1 h2 h3 hd hheap
  unfold Go.Sort.grow World.drewN
  simp only [h1, h2, h3]
  rw [← hheap]
  congr 1
  omega
abbrev vrow (c : List Value) : List PVal := c.map PVal.v
theorem HoldsK.of_rows {α : Type} [Inhabited α] {enc : α → List Value} {k : Nat} (h0 : 0 < k) (hk : ∀ x, (enc x).length = k) {X : Wd} {b ty : Nat} {arr : Array Value} {l : List α} (hheap : X.w.heap[b]? = some (.cells arr ty (0, 0))) (hrows : RowsAt X arr 0 k (l.map fun x => vrow (enc x))) : HoldsK enc k X.w b 0 l.toArray := by
  intro j hj
  rw [size_flatK] at hj
  have hj' : j < l.length * k := by simpa using hj
  have hjk : j / k < l.length := Nat.div_lt_of_lt_mul (by rw [Nat.mul_comm]; exact hj')
  have hmod := Nat.mod_lt j h0
  have hdm : j / k * k + j % k = j := by rw [Nat.mul_comm]; exact Nat.div_add_mod j k
  have hrow : (l.map fun x => vrow (enc x))[j / k]? = some (vrow (enc l[j / k])) := by simp [hjk]
  have hel : j % k < (enc l[j / k]).length := by rw [hk]; exact hmod
  obtain ⟨_, hcell⟩ := hrows _ _ hrow
  obtain ⟨cv, hcv, hval⟩ := hcell (j % k) (PVal.v (enc l[j / k])[j % k]) (by simp [hel])
  have e1 : (flatK enc k l.toArray)[j]! = (enc l[j / k])[j % k] := by
    rw [get_flatK enc k l.toArray j hj]
    have : l.toArray[j / k]! = l[j / k] := by simp [hjk]
    rw [this]; simp [hel]
  rw [e1]
  obtain ⟨hcv', _⟩ := hval
  rw [hcv'] at hcv
  rw [show 0 + j / k * k + j % k = 0 + j by omega] at hcv
  refine ⟨?_, ?_⟩
  · simp only [World.cell?, hheap]
    simpa using hcv
  · simp only [World.frozen?, hheap]
    simp
theorem sorted_heap {α : Type} [Inhabited α] {enc : α → List Value} {k : Nat} {w : World} {b ty n2 : Nat} {arr : Array Value} {d : Array α} {os : Array Obj} (hheap : w.heap[b]? = some (.cells arr ty (0, 0))) :
    (sortWorldK enc k w b 0 n2 d os).heap[b]? = some (.cells (putCells id 0 (flatK enc k d) arr) ty (0, 0)) ∧ (∀ q, q < w.heap.size → q ≠ b → (sortWorldK enc k w b 0 n2 d os).heap[q]? = w.heap[q]?) ∧ w.heap.size ≤ (sortWorldK enc k w b 0 n2 d os).heap.size := by
  have hb : b < w.heap.size := (Array.getElem?_eq_some_iff.1 hheap).1
  have e : (sortWorldK enc k w b 0 n2 d os).heap = w.heap.modify b (onCells (putCells id 0 (flatK enc k d))) ++ os := rfl
  rw [e]
  refine ⟨?_, fun q hq hne => ?_, ?_⟩
  · rw [Array.getElem?_append_left (by simpa using hb), Array.getElem?_modify, if_pos rfl, hheap]; rfl
  · rw [Array.getElem?_append_left (by simpa using hq), Array.getElem?_modify, if_neg (fun e => hne e.symm)]
  · simp
theorem sorted_rows {α : Type} [Inhabited α] {enc : α → List Value} {k : Nat} (h0 : 0 < k) (hk : ∀ x, (enc x).length = k) (h1 : ∀ x, ∀ v ∈ enc x, v.oneCell' = true) {X : Wd} {arr : Array Value} {s : List α} (hs : s.length * k ≤ arr.size) : RowsAt X (putCells id 0 (flatK enc k s.toArray) arr) 0 k (s.map fun x => vrow (enc x)) := by
  intro i row hr
  rw [List.getElem?_map] at hr
  cases hx : s[i]? with
  | none => rw [hx] at hr; cases hr
  | some x =>
    rw [hx] at hr; simp at hr; subst hr
    have hi : i < s.length := (List.getElem?_eq_some_iff.1 hx).1
    have hxi : s[i] = x := (List.getElem?_eq_some_iff.1 hx).2
    refine ⟨by simp [hk], fun j p hp => ?_⟩
    have hjl : j < k := by have := (List.getElem?_eq_some_iff.1 hp).1; simpa [hk] using this
    have hj : j < (enc x).length := by rw [hk]; exact hjl
    obtain rfl : p = PVal.v (enc x)[j] := by simpa [hj] using hp.symm
    have hik : i * k + j < s.length * k := by
      have := Nat.mul_le_mul_right k (show i + 1 ≤ s.length from hi)
      rw [Nat.add_mul, Nat.one_mul] at this; omega
    refine ⟨(enc x)[j], ?_, rfl, h1 x _ (List.getElem_mem _)⟩
    have hd : (i * k + j) / k = i := by rw [Nat.mul_comm, Nat.mul_add_div h0, Nat.div_eq_of_lt hjl]; omega
    have hm : (i * k + j) % k = j := by rw [Nat.mul_comm, Nat.mul_add_mod, Nat.mod_eq_of_lt hjl]
    have e1 : (flatK enc k s.toArray)[i * k + j]! = (enc x)[j] := by
      rw [get_flatK enc k s.toArray (i * k + j) (by simpa using hik), hd, hm]
      have : s.toArray[i]! = x := by simp [hi, hxi]
      rw [this]; simp [hj]
    unfold putCells
    rw [Array.getElem?_mapIdx, Array.getElem?_eq_getElem (by omega)]
    simp only [Option.map_some, Option.some.injEq, id_eq]
    rw [if_pos ⟨by omega, by rw [size_flatK]; simpa using hik⟩, show 0 + i * k + j - 0 = i * k + j by omega, e1]
/-- slices.SortFunc, of an own slice of elements of k cells -/
theorem sort_o {P : Program} {ρ : Ren} {α : Type} [Inhabited α] (L : SlLaysF0.n6 P ρ) (k : Nat) (h0 : 0 < k) (aE : ∀ w, (isAgg (ρ.t 24)).run P w = .ok true w) (zE : ∀ w, (Go.sizeOf (ρ.t 24)).run P w = .ok k w) (enc : α → List Value) (hk : ∀ x, (enc x).length = k) (h1 : ∀ x, ∀ v ∈ enc x, v.oneCell' = true)
    (cf : α → α → Int) (hO : SWO (ltOf cf)) (hT : ∀ x y, (ltOf cf) x y = false → (ltOf cf) y x = false → x = y) (g : Nat) (hfn : FnT P g) (hcmp : ∀ x y, PCall P g [.a ((vrow (enc x)).map .p), .a ((vrow (enc y)).map .p)] (.p (.i (cf x y)))) (ty n : Nat) (l : List α) (hl : l.length < 4611686018427387904) :
    OCall P (ρ.f 6) [.o (.osl 1000 n k 0 l.length), .p (.v (.func (.func g) #[] #[]))] (memL [(1000, (n + 1, some (.buf ty k (l.map fun x => vrow (enc x)))))]) (.tup []) (memL [(1000, (n + 1, some (.buf ty k ((l.mergeSort fun x y => !(ltOf cf) y x).map fun x => vrow (enc x)))))]) := by
  intro w G vs hOb ha
  obtain ⟨v0, vs1, rfl, hv0, ha1⟩ := ha.cons_inv
  obtain ⟨v1, vs2, rfl, hv1, ha2⟩ := ha1.cons_inv
  obtain rfl := ha2.nil_inv
  obtain ⟨m, c, hμ, hlen, rfl⟩ := hv0
  obtain ⟨rfl, _⟩ := hv1
  obtain ⟨g', m', hg', hm', hes, hcap, hlen2, hh⟩ := hOb.mem 1000 (n + 1) _ rfl
  obtain rfl : n = g' := by omega
  rw [hμ] at hm'; obtain rfl := Option.some.inj hm'
  obtain ⟨fnn, k1, k2, k3⟩ := hfn.fn
  have hname : ¬ fnn.name = "runtime.NumGoroutine" := by simpa using k2
  have eg : ∀ (args : Array Value) (w : World), (callFunc g args).run P w = .ok (.enter g args) w := fun args w => by
    cases hbody : fnn.body with
    | none => simp [hbody] at k3
    | some c => simp [callFunc, program, Sem.run, Sem.run_bind, k1, hbody, pure, hname]
  rw [List.length_map] at hlen2
  simp only at hcap hlen2 hh
  rcases hh with ⟨hn, hc0, hφ⟩ | ⟨b, arr, hb, hφ, hheap, hsz, hrows⟩
  · subst hn hc0
    have hl0 : l = [] := List.eq_nil_of_length_eq_zero (by omega)
    subst hl0
    refine (AnyF.slices_SortFunc_none L none (0 - 0) (.func (.func g) #[] #[]) w).mono ?_
    rintro e w' ⟨rfl, rfl⟩
    exact ⟨.tuple #[], G, rfl, ⟨[], rfl, .nil⟩, by simpa using hOb, fun b h => h, fun b h => .inl h, fun o b h => .inr ⟨o, h⟩, Mu.le.refl _, ⟨rfl, .same, rfl, Nat.le_refl _, fun _ _ _ => rfl⟩⟩
  · subst hb
    have hblk : b < w.heap.size := (Array.getElem?_eq_some_iff.1 hheap).1
    have hflat : HoldsK enc k w b 0 l.toArray := HoldsK.of_rows (X := ⟨w, G.S⟩) h0 hk hheap hrows
    have hcl : CmpLays P g #[] enc k cf b 0 l.toArray.size w := by
      intro mm os dk hs x y
      have hall : ∀ z : α, All2 (AC.holds Mu.none ⟨sortWorldK enc k w b 0 mm dk os, fun _ => False⟩) ((vrow (enc z)).map .p) (enc z) := fun z => by
        refine ⟨by simp, fun i c v hc hv => ?_⟩
        simp only [List.getElem?_map] at hc
        rw [hv] at hc
        simp at hc; subst hc
        exact ⟨rfl, h1 z v (List.mem_of_getElem? hv)⟩
      refine (hcmp x y (sortWorldK enc k w b 0 mm dk os) (fun _ => False) [.agg (enc x).toArray, .agg (enc y).toArray] (fun _ h => h.elim) (.cons ⟨enc x, rfl, hall x⟩ (.cons ⟨enc y, rfl, hall y⟩ .nil))).mono ?_
      rintro e w' ⟨v, rfl, ⟨S', _, _, hr⟩, hb, hd⟩
      obtain ⟨rfl, _⟩ := hr
      exact ⟨rfl, grow_of hb hd⟩
    have hgo := AnyQ.slices_SortFunc_total L k aE zE enc hk h1 cf hO g #[] b 0 (c - 0) l.toArray w eg hcl hflat hblk (by simpa using hl) hT
    simp only [List.size_toArray] at hgo
    have hargs : (#[.slice (some ⟨b, 0, none⟩) l.length (c - 0), .func (.func g) #[] #[]] : Array Value) = [Value.slice (Option.map (fun b => ⟨b, 0 * k, none⟩) (some b)) l.length (c - 0), .func (.func g) #[] #[]].toArray := by simp
    rw [← hargs]
    refine hgo.mono ?_
    rintro e w' ⟨rfl, n2, os, rfl⟩
    have hSl : (l.mergeSort fun x y => !(ltOf cf) y x).length = l.length := List.length_mergeSort ..
    obtain ⟨q1, q2, q3⟩ := sorted_heap (enc := enc) (k := k) (n2 := n2) (d := (l.mergeSort fun x y => !(ltOf cf) y x).toArray) (os := os) hheap
    have hsame : ∀ q, G.S q → (sortWorldK enc k w b 0 n2 (l.mergeSort fun x y => !(ltOf cf) y x).toArray os).heap[q]? = w.heap[q]? := fun q hq => q2 q (hOb.sbd q hq) fun e => hOb.stab 1000 b (by rw [hφ]; simp) (e ▸ hq)
    refine ⟨.tuple #[], G, rfl, ⟨[], rfl, .nil⟩, ?_, fun b h => h, fun b h => .inl h, fun o b h => .inr ⟨o, h⟩, Mu.le.refl _, ⟨rfl, ⟨rfl, Nat.le_add_right _ _⟩, rfl, q3, fun q hq hn => q2 q hq fun e => hn ⟨1000, by rw [hφ, e]; simp⟩⟩⟩
    exact {
      gens := fun o => by
        have := hOb.gens o
        by_cases ho : o = 1000
        · subst ho; simpa [memL] using this
        · simpa [memL, ho] using this
      mem := fun o n' mo ho => by
        by_cases hq : o = 1000
        · subst hq
          simp only [memL, if_true, Prod.mk.injEq, Option.some.injEq] at ho
          obtain ⟨rfl, rfl⟩ := ho
          refine ⟨n, (some b, c), rfl, hμ, hes, hcap, by rw [List.length_map, hSl]; exact hlen2, .inr ⟨b, _, rfl, hφ, q1, ?_, ?_⟩⟩
          · simp [putCells, hsz]
          · exact sorted_rows h0 hk h1 (by rw [hSl, hsz]; exact Nat.mul_le_mul_right k hlen2)
        · simp [memL, hq] at ho
      apart := hOb.apart
      stab := hOb.stab
      own := fun o b hb => Nat.lt_of_lt_of_le (hOb.own o b hb) q3
      sbd := fun b hb => Nat.lt_of_lt_of_le (hOb.sbd b hb) q3 }
end Go.Aw
namespace Go.Proofs.YtclcfjejpogdlaaGreat.Ca
open Go Go.RowKit Go.Aw Go.Aw.Cart Go.Sort
set_option linter.unusedVariables false
set_option linter.unusedSimpArgs false
set_option maxRecDepth 8000
set_option maxHeartbeats 4000000
def encD (d : Dot) : List Value := [.int .i64 d.1, .int .u64 d.2]
instance {a b : Ent} : Decidable (ltE a b) := by unfold ltE; infer_instance
instance {a b : Dot} : Decidable (ltD a b) := by unfold ltD; infer_instance
theorem ltE_of {x y : Ent} : ltOf ordE x y = decide (ltE x y) := decide_eq_decide.2 ordE_lt
theorem ltD_of {x y : Dot} : ltOf cmpD x y = decide (ltD x y) := decide_eq_decide.2 cmpD_lt
theorem swoD : SWO (ltOf cmpD) where
  irrefl x := by rw [ltD_of]; exact decide_eq_false (by unfold ltD; omega)
  trans x y z h1 h2 := by
    rw [ltD_of] at *
    have k1 := of_decide_eq_true h1
    have k2 := of_decide_eq_true h2
    refine decide_eq_true ?_
    unfold ltD at *; omega
  ntrans x y z h1 h2 := by
    rw [ltD_of] at *
    have k1 := of_decide_eq_false h1
    have k2 := of_decide_eq_false h2
    refine decide_eq_false ?_
    unfold ltD at *; omega
theorem totE (x y : Ent) (h1 : ltOf ordE x y = false) (h2 : ltOf ordE y x = false) : x = y := by
  rw [ltE_of] at *
  have k1 := of_decide_eq_false h1
  have k2 := of_decide_eq_false h2
  obtain ⟨a, b, c, d⟩ := x
  obtain ⟨a', b', c', d'⟩ := y
  unfold ltE at *
  simp only at k1 k2
  simp only [Prod.mk.injEq]; omega
theorem totD (x y : Dot) (h1 : ltOf cmpD x y = false) (h2 : ltOf cmpD y x = false) : x = y := by
  rw [ltD_of] at *
  have k1 := of_decide_eq_false h1
  have k2 := of_decide_eq_false h2
  obtain ⟨a, b⟩ := x
  obtain ⟨a', b'⟩ := y
  unfold ltD at *
  simp only at k1 k2
  simp only [Prod.mk.injEq]; omega
/-- entries in order; dots in order -/
def sortE (l : List Ent) : List Ent := l.mergeSort fun x y => !(ltOf ordE) y x
def sortD (l : List Dot) : List Dot := l.mergeSort fun x y => !(ltOf cmpD) y x
theorem sortD_o (n : Nat) (l : List Dot) (h : l.length ≤ 1000000000) : OCall Tryz.prog 295 [.o (.osl 1000 n 2 0 l.length), .p (.v (.func (.func 296) #[] #[]))] (memL [(1000, (n + 1, some (.buf 317 2 (l.map dR))))]) (.tup []) (memL [(1000, (n + 1, some (.buf 317 2 ((sortD l).map dR))))]) :=
  sort_o (ρ := Tryz.lay295_ren) Tryz.lay295 2 (by decide) (TI.run_isAgg (inferInstance : TI Tryz.prog 317 _ _ _)) (TI.run_sizeOf (inferInstance : TI Tryz.prog 317 _ _ _)) encD (fun _ => rfl)
    (fun x v hv => by simp [encD] at hv; rcases hv with rfl | rfl <;> rfl) cmpD swoD totD 296 inferInstance (fun x y => cmpD_w x y) _ n l (by omega)
instance {c g n : Nat} {l : List Dot} : OC Tryz.prog 295 [.o (.osl c g 2 0 l.length), .p (.v (.func (.func 296) #[] #[]))] [(c, (n, some (.buf 317 2 (l.map dR))))] [] (n = g + 1 ∧ l.length ≤ 1000000000) (.tup []) [(c, (n, some (.buf 317 2 ((sortD l).map dR))))] := ⟨fun h => by obtain ⟨rfl, h⟩ := h; exact (sortD_o g l h).one c⟩
theorem sortE_len (l : List Ent) : (sortE l).length = l.length := List.length_mergeSort ..
theorem sortD_len (l : List Dot) : (sortD l).length = l.length := List.length_mergeSort ..
end Go.Proofs.YtclcfjejpogdlaaGreat.Ca
namespace Go.Proofs.YtclcfjejpogdlaaGreat.Ca
open Go Go.RowKit Go.Aw Go.Aw.Cart
set_option linter.unusedVariables false
set_option linter.unusedSimpArgs false
set_option maxRecDepth 8000
set_option maxHeartbeats 4000000
theorem valuesD_w (l : List Dot) (ex : Bool) : PCall Tryz.prog 286 [.p (.sl 2 (l.map dR) ex)] (.p (.fnv 298 [.bx [.sl 2 (l.map dR) ex] 0])) := by
  refine pcall_of Tryz.func286 rfl (fun w0 F S0 M0 => ?_)
  repeat' (first | refine rnJ ?_ | refine rnSB ?_ | refine rnG ?_ | refine rnU ?_ | ((fail_if_success (refine rnKn ?_)); refine rnP ?_ ?_ <;> (intro hq; try (have hq' := hq; simp only [hqs] at hq'))) | refine rkJ ?_ | refine rkSB ?_ | refine rkF ?_ | refine rkU ?_ | ((fail_if_success (refine rkKn ?_)); refine rkP ?_ ?_ <;> (intro hq; try (have hq' := hq; simp only [hqs] at hq'))) | refine stp ?_ | refine aws_draws [] mixed (by kernel_rfl) ?_ | refine ifT ?_ | refine ifF ?_ | (refine ifQ ?_ ?_ <;> (try (intro hn))) | (refine ifB ?_ ?_ <;> (intro hq; try (have hq' := hq; simp only [hqs] at hq'))))
  exact rt1 rfl rfl finS_p rfl
instance {l : List Dot} {ex : Bool} : PC Tryz.prog 286 [.p (.sl 2 (l.map dR) ex)] True (.p (.fnv 298 [.bx [.sl 2 (l.map dR) ex] 0])) := ⟨fun _ => valuesD_w l ex⟩
theorem iterD_w (l : List Dot) (ex : Bool) (h : l.length ≤ 1000000000) : ICall Tryz.prog 298 [.bx [.sl 2 (l.map dR) ex] 0] (l.map dV) := by
  refine icall_of Tryz.func298 rfl (fun w0 F S0 M0 I yv hone hY => ?_)
  simp only [List.length_map]
  repeat' (first | refine rnJ ?_ | refine rnSB ?_ | refine rnG ?_ | refine rnU ?_ | ((fail_if_success (refine rnKn ?_)); refine rnP ?_ ?_ <;> (intro hq; try (have hq' := hq; simp only [hqs] at hq'))) | refine rkJ ?_ | refine rkSB ?_ | refine rkF ?_ | refine rkU ?_ | ((fail_if_success (refine rkKn ?_)); refine rkP ?_ ?_ <;> (intro hq; try (have hq' := hq; simp only [hqs] at hq'))) | refine stp ?_ | refine aws_draws [] mixed (by kernel_rfl) ?_ | refine ifT ?_ | refine ifF ?_ | (refine ifQ ?_ ?_ <;> (try (intro hn))) | (refine ifB ?_ ?_ <;> (intro hq; try (have hq' := hq; simp only [hqs] at hq'))))
  refine aws_loopS [4, 7, 8, 9, 10, 11, 12, 13, 14, 15] [1000, 4] (fun (x : Nat × Option MO) => [(7, .p (.i x.1))]) (fun x => [(1000, (1, some (.abs (I x.1)))), (4, (x.1, x.2))])
    (fun x => x.1 ≤ l.length) (fun x => l.length - x.1) (0, none) (Nat.zero_le _) (by exact knA) (by exact knA) ?_
  rintro ⟨i, c4⟩ β γ hi
  simp only at hi
  dsimp only
  by_cases hil : i < l.length
  · have hd : decide ((i : Int) < (l.length : Int)) = true := decide_eq_true (by omega)
    have hy := hY i (dV (l.getD (i : Int).toNat default)) (by rw [Int.toNat_natCast, List.getElem?_map, List.getD_eq_getElem?_getD, List.getElem?_eq_getElem hil]; rfl)
    repeat' (first | refine rnJ ?_ | refine rnSB ?_ | refine rnG ?_ | refine rnU ?_ | ((fail_if_success (refine rnKn ?_)); refine rnP ?_ ?_ <;> (intro hq; try (have hq' := hq; simp only [hqs] at hq'))) | refine rkJ ?_ | refine rkSB ?_ | refine rkF ?_ | refine rkU ?_ | ((fail_if_success (refine rkKn ?_)); refine rkP ?_ ?_ <;> (intro hq; try (have hq' := hq; simp only [hqs] at hq'))) | refine stp ?_ | refine aws_draws [] mixed (by kernel_rfl) ?_ | refine ifT ?_ | refine ifF ?_ | (refine ifQ ?_ ?_ <;> (try (intro hn))) | (refine ifB ?_ ?_ <;> (intro hq; try (have hq' := hq; simp only [hqs] at hq'))))
    exact ⟨(i + 1, some (.box 317 (dL (l.getD (i : Int).toNat default)))), _, by dsimp only; omega, by dsimp only; omega, .refl, by exact frA⟩
  · have hd : decide ((i : Int) < (l.length : Int)) = false := decide_eq_false (by omega)
    obtain rfl : i = l.length := by omega
    repeat' (first | refine rnJ ?_ | refine rnSB ?_ | refine rnG ?_ | refine rnU ?_ | ((fail_if_success (refine rnKn ?_)); refine rnP ?_ ?_ <;> (intro hq; try (have hq' := hq; simp only [hqs] at hq'))) | refine rkJ ?_ | refine rkSB ?_ | refine rkF ?_ | refine rkU ?_ | ((fail_if_success (refine rkKn ?_)); refine rkP ?_ ?_ <;> (intro hq; try (have hq' := hq; simp only [hqs] at hq'))) | refine stp ?_ | refine aws_draws [] mixed (by kernel_rfl) ?_ | refine ifT ?_ | refine ifF ?_ | (refine ifQ ?_ ?_ <;> (try (intro hn))) | (refine ifB ?_ ?_ <;> (intro hq; try (have hq' := hq; simp only [hqs] at hq'))))
    show RetO _ _ _ _ _ .normal _
    exact RetO.mk (res0 rfl rfl) ⟨.abs, trivial⟩
end Go.Proofs.YtclcfjejpogdlaaGreat.Ca
namespace Go.Proofs.YtclcfjejpogdlaaGreat.Ca
open Go Go.RowKit Go.Aw Go.Aw.Cart
set_option linter.unusedVariables false
set_option linter.unusedSimpArgs false
set_option maxRecDepth 8000
set_option maxHeartbeats 4000000
theorem Agr.put' {σ τ : St} {W M : List Nat} {o : Nat} {m : Nat × Option MO} (h : Agr σ W (o :: M) τ) : Agr (σ.put o m) W M (τ.put o m) := ⟨h.env, fun t ht => by
  by_cases e : t = o
  · subst e; simp [St.put]
  · have hb : Nat.beq t o = false := Bool.eq_false_iff.2 (fun k => e (Nat.eq_of_beq_eq_true k))
    have := h.mem t (by simp only [memb, hb, ht, Bool.or_self])
    simp [St.put, e, this]⟩
namespace C5
end C5
open C5
end Go.Proofs.YtclcfjejpogdlaaGreat.Ca
namespace Go.Proofs.YtclcfjejpogdlaaGreat.Ca
open Go Go.RowKit Go.Aw Go.Aw.Cart
set_option linter.unusedVariables false
set_option linter.unusedSimpArgs false
set_option maxRecDepth 8000
set_option maxHeartbeats 4000000
end Go.Proofs.YtclcfjejpogdlaaGreat.Ca
