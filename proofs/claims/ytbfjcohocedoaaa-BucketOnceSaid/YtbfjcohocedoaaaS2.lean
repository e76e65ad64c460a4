/- packs: how the laws' arguments read; buckets in plain Lean; packs: a key's cart found; packs: a list with another cart: copies; buckets: a list of keyed carts without some of them, in place -/
import Derived.Test.YtbfjcohocedoaaaCbR
import Derived.Test.YtbfjcohocedoaaaQ3
import Derived.Test.YtbfjcohocedoaaaS1
namespace Go.Proofs.Ytbfjcohocedoaaa.Wi
open Go Go.RowKit Go.Aw Go.Aw.Cart Go.Proofs.Ytbfjcohocedoaaa.Ca
set_option linter.unusedVariables false
set_option linter.unusedSimpArgs false
theorem rd_keyP : Reads Try.prog 9 (List Nat) (fun k => [.v (.string (strOf k))]) (fun k => okB k ∧ k.length ≤ 9223372036854775807) :=
  (reads_string inferInstance).imp' bytesOf (fun s _ => by rw [strOf_bytesOf]) (fun s h => ⟨bytesOf_ok s, by
    have e : (bytesOf s).length = s.size := by rw [← strOf_size, strOf_bytesOf]
    have h' : s.size ≤ 2 ^ 63 - 1 := h
    omega⟩)
theorem vRow_8 {v : List Int} (h : v.length = 8) : vRow v = [.k .u64 (v.getD 0 default), .k .u64 (v.getD 1 default), .k .u64 (v.getD 2 default), .k .u64 (v.getD 3 default), .k .u64 (v.getD 4 default), .k .u64 (v.getD 5 default), .k .u64 (v.getD 6 default), .k .u64 (v.getD 7 default)] := by
  match v, h with
  | [a0, a1, a2, a3, a4, a5, a6, a7], _ => rfl
theorem rd_kd : Reads Try.prog 36 Kd (fun k => kR k) KdI :=
  (reads_struct (inferInstance : TI Try.prog 36 _ _ _)
    (readsFs_cons (inferInstance : TI Try.prog 9 _ _ _) rd_keyP (readsFs_cons (inferInstance : TI Try.prog 32 _ _ _) rd_cart (readsFs_nil rfl)))).imp'
    (fun x => (x.1, x.2.1)) (fun x h => by
      have e := vRow_8 h.2.1.v8
      simp only [cRow, e]; rfl) (fun x h => ⟨h.1.1, h.1.2, ⟨h.2.1.v8, h.2.1.vb⟩, h.2.1.len⟩)
theorem rd_kds : Reads Try.prog 22 (List Kd) (fun l => [.sl 10 (l.map fun k => kR k) false]) (fun l => l.length ≤ maxLen ∧ ∀ k ∈ l, KdI k) :=
  reads_slice inferInstance inferInstance (by decide) rd_kd
end Go.Proofs.Ytbfjcohocedoaaa.Wi
namespace Go.Proofs.Ytbfjcohocedoaaa.Wi
open Go Go.RowKit Go.Aw Go.Aw.Cart Go.Proofs.Ytbfjcohocedoaaa.Ca Go.Proofs.Ytbfjcohocedoaaa.Rg
set_option linter.unusedVariables false
set_option linter.unusedSimpArgs false
/-- nothing is known of a cart -/
def emptyF (c : Crt) : Bool := sameF c.1 zeroV c.2 []
/-- what stands in no bucket -/
def offF (e : Kd) : Bool := emptyF e.2 || !keyR e.1
/-- what stands in buckets -/
def stF (l : List Kd) : List Kd := l.filter fun e => !offF e
def inB (part : Int) (j : Nat) (e : Kd) : Bool := decide ((partF e.1 : Int) = part) && decide (leafF e.1 = j)
/-- a list's buckets -/
def bkF (part : Int) (L : List Kd) : List (List Kd) := (List.range 16).map fun j => L.filter (inB part j)
def bktsF (l : List Kd) (part : Int) : List (List Kd) := if keysF l = true then bkF part (stF l) else List.replicate 16 []
theorem bkF_len (part : Int) (L : List Kd) : (bkF part L).length = 16 := by simp [bkF]
theorem bkF_get (part : Int) (L : List Kd) {j : Nat} (h : j < 16) : (bkF part L).getD j [] = L.filter (inB part j) := by
  unfold bkF
  rw [List.getD_eq_getElem?_getD, List.getElem?_map, List.getElem?_range h]; rfl
theorem bkts_len (l : List Kd) (part : Int) : (bktsF l part).length = 16 := by
  unfold bktsF
  split
  · exact bkF_len _ _
  · rfl
theorem leaf_lt (k : List Nat) : leafF k < 16 := Nat.mod_lt _ (by decide)
theorem bk_ext {a b : List (List Kd)} (ha : a.length = 16) (hb : b.length = 16) (h : ∀ j, j < 16 → a.getD j [] = b.getD j []) : a = b := by
  refine List.ext_getElem (ha.trans hb.symm) fun i h1 h2 => ?_
  have := h i (by omega)
  rwa [List.getD_eq_getElem?_getD, List.getD_eq_getElem?_getD, List.getElem?_eq_getElem h1, List.getElem?_eq_getElem h2] at this
theorem bk_skip {part : Int} {L : List Kd} {e : Kd} (h : (partF e.1 : Int) ≠ part) : bkF part (L ++ [e]) = bkF part L := by
  refine bk_ext (bkF_len _ _) (bkF_len _ _) fun j hj => ?_
  rw [bkF_get _ _ hj, bkF_get _ _ hj, List.filter_append]
  have : inB part j e = false := by unfold inB; rw [decide_eq_false h]; rfl
  rw [List.filter_cons_of_neg (by rw [this]; simp), List.filter_nil, List.append_nil]
theorem bk_put {part : Int} {L : List Kd} {e : Kd} (h : (partF e.1 : Int) = part) : bkF part (L ++ [e]) = (bkF part L).set (leafF e.1) ((bkF part L).getD (leafF e.1) [] ++ [e]) := by
  refine bk_ext (bkF_len _ _) (by rw [List.length_set]; exact bkF_len _ _) fun j hj => ?_
  have hlf := leaf_lt e.1
  rw [bkF_get _ _ hj, List.filter_append]
  by_cases q : leafF e.1 = j
  · have : inB part j e = true := by unfold inB; rw [decide_eq_true h, decide_eq_true q]; rfl
    rw [List.filter_cons_of_pos this, List.filter_nil]
    subst q
    rw [List.getD_eq_getElem?_getD, List.getElem?_set_self (by rw [bkF_len]; exact hlf), bkF_get _ _ hlf]; rfl
  · have : inB part j e = false := by unfold inB; rw [decide_eq_false q, Bool.and_false]
    rw [List.filter_cons_of_neg (by rw [this]; simp), List.filter_nil, List.append_nil]
    rw [List.getD_eq_getElem?_getD, List.getElem?_set_ne q, ← List.getD_eq_getElem?_getD, bkF_get _ _ hj]
theorem st_sub {l : List Kd} : ∀ e ∈ stF l, e ∈ l := fun e h => (List.mem_filter.1 h).1
theorem st_len (l : List Kd) : (stF l).length ≤ l.length := List.length_filter_le _ _
theorem bk_sub {part : Int} {l : List Kd} {j : Nat} : ∀ e ∈ (bktsF l part).getD j [], e ∈ l := by
  intro e h
  unfold bktsF at h
  split at h
  · by_cases hj : j < 16
    · rw [bkF_get _ _ hj] at h
      exact st_sub e (List.mem_filter.1 h).1
    · rw [List.getD_eq_getElem?_getD, List.getElem?_eq_none (by rw [bkF_len]; omega)] at h
      cases h
  · rw [List.getD_eq_getElem?_getD, List.getElem?_replicate] at h
    split at h <;> cases h
theorem bk_lenle {part : Int} {l : List Kd} {j : Nat} : ((bktsF l part).getD j []).length ≤ l.length := by
  unfold bktsF
  split
  · by_cases hj : j < 16
    · rw [bkF_get _ _ hj]
      exact Nat.le_trans (List.length_filter_le _ _) (st_len l)
    · rw [List.getD_eq_getElem?_getD, List.getElem?_eq_none (by rw [bkF_len]; omega)]
      exact Nat.zero_le _
  · rw [List.getD_eq_getElem?_getD, List.getElem?_replicate]
    split <;> exact Nat.zero_le _
end Go.Proofs.Ytbfjcohocedoaaa.Wi
namespace Go.Proofs.Ytbfjcohocedoaaa.Wi
open Go Go.RowKit Go.Aw Go.Aw.Cart Go.Proofs.Ytbfjcohocedoaaa.Ca
set_option linter.unusedVariables false
set_option linter.unusedSimpArgs false
set_option maxRecDepth 8000
set_option maxHeartbeats 4000000
abbrev kV (k : Kd) : AV := .a (kL k)
def idxK (p : Kd → Bool) (l : List Kd) (k : Nat) : Nat → Int
  | 0 => -1
  | n + 1 => if p (l.getD k default) = true then k else idxK p l (k + 1) n
theorem idxK_found {p : Kd → Bool} {l : List Kd} : ∀ (n k : Nat), k + n = l.length → (idxK p l k n = -1 ∧ ∀ i, k ≤ i → i < l.length → p (l.getD i default) = false) ∨ ∃ i0 : Nat, idxK p l k n = i0 ∧ k ≤ i0 ∧ i0 < l.length ∧ p (l.getD i0 default) = true ∧ ∀ i, k ≤ i → i < i0 → p (l.getD i default) = false
  | 0, k, h => .inl ⟨rfl, fun i h1 h2 => by omega⟩
  | n + 1, k, h => by
    rw [idxK]
    by_cases hp : p (l.getD k default) = true
    · rw [if_pos hp]; exact .inr ⟨k, rfl, Nat.le_refl _, by omega, hp, fun i h1 h2 => by omega⟩
    · rw [if_neg hp]
      have hp' := Bool.eq_false_iff.2 hp
      rcases idxK_found (p := p) (l := l) n (k + 1) (by omega) with ⟨h1, h2⟩ | ⟨i0, h1, h2, h3, h4, h5⟩
      · refine .inl ⟨h1, fun i a b => ?_⟩
        by_cases e : i = k
        · rw [e]; exact hp'
        · exact h2 i (by omega) b
      · refine .inr ⟨i0, h1, by omega, h3, h4, fun i a b => ?_⟩
        by_cases e : i = k
        · rw [e]; exact hp'
        · exact h5 i (by omega) b
namespace WC
theorem lopC {C : Ctx} {o : Oper} {σ : St} {e : Eff} {ro : Nat → Bool} (h : LOp C o σ e ro := by
    first | (apply lop_callv1; (focus rfl); (focus rfl); (focus assumption); (focus first | exact lk_o rfl | exact lk_a rfl); (focus exact inferInstance); (focus exact inferInstance); (focus exact True.intro); (focus rfl)) | (apply gBin; (focus rfl); apply lop_eqs; (focus rfl); (focus exact inferInstance); (focus rfl); (focus rfl); (focus assumption); (focus assumption); (focus rfl)) | exact W9.lopC | fail) : LOp C o σ e ro := h
section steps
variable {C : Ctx} {ops : Array Oper} {o : Oper} {rest : List Oper} {K : St → Prop} {σ : St} {e : Eff} {ro : Nat → Bool} {W : List (Nat × Nat)} {i : Nat}
theorem rnC {d : Nat} (hk : RunN C ops rest K (e.app (some d) σ)) (hg : Guard ops σ o true := by first | exact gd_n rfl rfl | exact gd_t rfl rfl rfl rfl | exact gd_t rfl rfl rfl (by assumption)) (hd : o.dst = some d := by rfl) (h : LOp C o σ e ro := by exact lopC) : RunN C ops (o :: rest) K σ := rn_any hg hd h hk
theorem rkC {d : Nat} (hk : RunK C ops W (i + 1) rest K (e.app (some d) σ)) (hg : Guard ops σ o true := by first | exact gd_n rfl rfl | exact gd_t rfl rfl rfl rfl | exact gd_t rfl rfl rfl (by assumption)) (hd' : o.dst = some d := by rfl) (hd : dOk C o.dst = true := by rfl) (h : LOp C o σ e ro := by exact lopC)
    (hro : ∀ x, ro x = true → okObj ops W i x = true := by first | exact fun _ => ro_none | exact ro_one rfl | exact ro_k1 rfl | exact ro_one (by kernel_rfl) | exact ro_k1 (by kernel_rfl) | exact ro_kIn (by decide)) (hob : ∀ p ∈ e.obj, (i, p.1) ∈ W := by first | exact ob_none | exact ob_one (by decide) | decide) : RunK C ops W i (o :: rest) K σ := rk_wr hg hd' hd h hro hob hk
end steps
end WC
open WC
theorem indexFuncK_w (f : FuncId) (caps : List PVal) (hf : FnT Try.prog f) (p : Kd → Bool) (l : List Kd) (ex : Bool) (h : l.length ≤ 1000000000) (hp : ∀ e ∈ l, PCall Try.prog f ([kV e] ++ caps.map .p) (.p (.b (p e)))) : PCall Try.prog 28 [.p (.sl 10 (l.map kR) ex), .p (.fnv f caps)] (.p (.i (idxK p l 0 l.length))) := by
  refine pcall_of Try.func28 rfl (fun w0 F S0 M0 => ?_)
  obtain ⟨A, hA⟩ : ∃ A, A = idxK p l 0 l.length := ⟨_, rfl⟩
  rw [← hA]
  repeat' (first | refine rnC ?_ | refine rnSB ?_ | refine rnG ?_ | refine rnU ?_ | ((fail_if_success (refine rnKn ?_)); refine rnP ?_ ?_ <;> (intro hq; try (have hq' := hq; simp only [hqs] at hq'))) | refine rkC ?_ | refine rkSB ?_ | refine rkF ?_ | refine rkU ?_ | ((fail_if_success (refine rkKn ?_)); refine rkP ?_ ?_ <;> (intro hq; try (have hq' := hq; simp only [hqs] at hq'))) | refine stp ?_ | refine ifT ?_ | refine ifF ?_ | (refine ifQ ?_ ?_ <;> (try (intro hn))) | (refine ifB ?_ ?_ <;> (intro hq; try (have hq' := hq; simp only [hqs] at hq'))))
  refine aws_loopS [4, 5, 8, 9, 10, 11, 12, 13, 14, 15, 16, 17, 18] [] (fun (i : Nat) => [(8, .p (.i i))]) (fun _ => []) (fun i => i ≤ l.length ∧ A = idxK p l i (l.length - i)) (fun i => l.length - i) 0 ⟨Nat.zero_le _, hA⟩ (by exact knA) (by exact knA) ?_
  rintro i β γ ⟨hi, hx⟩
  by_cases hil : i < l.length
  · have hlt : decide ((i : Int) < l.length) = true := decide_eq_true (by omega)
    rw [show l.length - i = (l.length - (i + 1)) + 1 by omega, idxK] at hx
    haveI : PC Try.prog f ([kV (l.getD (i : Int).toNat default)] ++ caps.map .p) True (.p (.b (p (l.getD (i : Int).toNat default)))) := ⟨fun _ => hp _ (by rw [Int.toNat_natCast, getD_at hil]; exact List.getElem_mem _)⟩
    cases hv : p (l.getD (i : Int).toNat default) with
    | true =>
      have hv' := hv
      rw [Int.toNat_natCast] at hv'
      rw [if_pos hv'] at hx
      rw [hx]
      as_aux_lemma =>
        repeat' (first | refine rnC ?_ | refine rnSB ?_ | refine rnG ?_ | refine rnU ?_ | ((fail_if_success (refine rnKn ?_)); refine rnP ?_ ?_ <;> (intro hq; try (have hq' := hq; simp only [hqs] at hq'))) | refine rkC ?_ | refine rkSB ?_ | refine rkF ?_ | refine rkU ?_ | ((fail_if_success (refine rkKn ?_)); refine rkP ?_ ?_ <;> (intro hq; try (have hq' := hq; simp only [hqs] at hq'))) | refine stp ?_ | refine ifT ?_ | refine ifF ?_ | (refine ifQ ?_ ?_ <;> (try (intro hn))) | (refine ifB ?_ ?_ <;> (intro hq; try (have hq' := hq; simp only [hqs] at hq'))))
        exact rt1 rfl rfl finS_p rfl
    | false =>
      have hv' := hv
      rw [Int.toNat_natCast] at hv'
      rw [if_neg (by rw [hv']; simp)] at hx
      as_aux_lemma =>
        repeat' (first | refine rnC ?_ | refine rnSB ?_ | refine rnG ?_ | refine rnU ?_ | ((fail_if_success (refine rnKn ?_)); refine rnP ?_ ?_ <;> (intro hq; try (have hq' := hq; simp only [hqs] at hq'))) | refine rkC ?_ | refine rkSB ?_ | refine rkF ?_ | refine rkU ?_ | ((fail_if_success (refine rkKn ?_)); refine rkP ?_ ?_ <;> (intro hq; try (have hq' := hq; simp only [hqs] at hq'))) | refine stp ?_ | refine ifT ?_ | refine ifF ?_ | (refine ifQ ?_ ?_ <;> (try (intro hn))) | (refine ifB ?_ ?_ <;> (intro hq; try (have hq' := hq; simp only [hqs] at hq'))))
        exact ⟨i + 1, _, by omega, ⟨by omega, hx⟩, .refl, by exact frA⟩
  · have hlt : decide ((i : Int) < l.length) = false := decide_eq_false (by omega)
    rw [show l.length - i = 0 by omega, idxK] at hx
    rw [hx]
    as_aux_lemma =>
      repeat' (first | refine rnC ?_ | refine rnSB ?_ | refine rnG ?_ | refine rnU ?_ | ((fail_if_success (refine rnKn ?_)); refine rnP ?_ ?_ <;> (intro hq; try (have hq' := hq; simp only [hqs] at hq'))) | refine rkC ?_ | refine rkSB ?_ | refine rkF ?_ | refine rkU ?_ | ((fail_if_success (refine rkKn ?_)); refine rkP ?_ ?_ <;> (intro hq; try (have hq' := hq; simp only [hqs] at hq'))) | refine stp ?_ | refine ifT ?_ | refine ifF ?_ | (refine ifQ ?_ ?_ <;> (try (intro hn))) | (refine ifB ?_ ?_ <;> (intro hq; try (have hq' := hq; simp only [hqs] at hq'))))
      exact rt1 rfl rfl finS_p rfl
theorem find1_w (e : Kd) (key : List Nat) (h1 : okB e.1) (h2 : okB key) : PCall Try.prog 29 ([kV e] ++ [PVal.bx [.v (.string (strOf key))] 0].map .p) (.p (.b (decide (e.1 = key)))) := by
  refine pcall_of Try.func29 rfl (fun w0 F S0 M0 => ?_)
  as_aux_lemma =>
    repeat' (first | refine rnC ?_ | refine rnSB ?_ | refine rnG ?_ | refine rnU ?_ | ((fail_if_success (refine rnKn ?_)); refine rnP ?_ ?_ <;> (intro hq; try (have hq' := hq; simp only [hqs] at hq'))) | refine rkC ?_ | refine rkSB ?_ | refine rkF ?_ | refine rkU ?_ | ((fail_if_success (refine rkKn ?_)); refine rkP ?_ ?_ <;> (intro hq; try (have hq' := hq; simp only [hqs] at hq'))) | refine stp ?_ | refine ifT ?_ | refine ifF ?_ | (refine ifQ ?_ ?_ <;> (try (intro hn))) | (refine ifB ?_ ?_ <;> (intro hq; try (have hq' := hq; simp only [hqs] at hq'))))
    exact rt1 rfl rfl finS_p rfl
theorem with1_w (e : Kd) (key : List Nat) (h1 : okB e.1) (h2 : okB key) : PCall Try.prog 48 ([kV e] ++ [PVal.bx [.v (.string (strOf key))] 0].map .p) (.p (.b (bLt key e.1))) := by
  refine pcall_of Try.func48 rfl (fun w0 F S0 M0 => ?_)
  as_aux_lemma =>
    repeat' (first | refine rnC ?_ | refine rnSB ?_ | refine rnG ?_ | refine rnU ?_ | ((fail_if_success (refine rnKn ?_)); refine rnP ?_ ?_ <;> (intro hq; try (have hq' := hq; simp only [hqs] at hq'))) | refine rkC ?_ | refine rkSB ?_ | refine rkF ?_ | refine rkU ?_ | ((fail_if_success (refine rkKn ?_)); refine rkP ?_ ?_ <;> (intro hq; try (have hq' := hq; simp only [hqs] at hq'))) | refine stp ?_ | refine ifT ?_ | refine ifF ?_ | (refine ifQ ?_ ?_ <;> (try (intro hn))) | (refine ifB ?_ ?_ <;> (intro hq; try (have hq' := hq; simp only [hqs] at hq'))))
    exact rt1 rfl rfl finS_p rfl
theorem find_is {k : List Nat} : ∀ {l : List Kd} {i : Nat}, i < l.length → (l.getD i default).1 = k → (∀ j, j < i → (l.getD j default).1 ≠ k) → findK l k = ((l.getD i default).2, true)
  | [], i, h, _, _ => absurd h (Nat.not_lt_zero _)
  | e :: l, 0, h, hk, _ => by
    have hk' : e.1 = k := hk
    rw [findK, if_pos hk']; rfl
  | e :: l, i + 1, h, hk, hno => by
    have h0 : e.1 ≠ k := hno 0 (by omega)
    rw [findK, if_neg h0]
    exact find_is (l := l) (i := i) (by simpa using h) hk fun j hj => hno (j + 1) (by omega)
theorem find_w (l : List Kd) (ex : Bool) (key : List Nat) (hl : l.length ≤ 1000000000) (hin : ∀ k ∈ l, okB k.1) (hk : okB key) : PCall Try.prog 12 [.p (.sl 10 (l.map kR) ex), .p (.v (.string (strOf key)))] (.tup [.agg (cL (findK l key).1.1 (findK l key).1.2 false), .one (.p (.b (findK l key).2))]) := by
  refine pcall_of Try.func12 rfl (fun w0 F S0 M0 => ?_)
  obtain ⟨A, hA⟩ : ∃ A, A = idxK (fun e => decide (e.1 = key)) l 0 l.length := ⟨_, rfl⟩
  haveI : PC Try.prog 28 [.p (.sl 10 (l.map kR) ex), .p (.fnv 29 [.bx [.v (.string (strOf key))] 0])] True (.p (.i A)) := ⟨fun _ => by rw [hA]; exact indexFuncK_w _ _ inferInstance (fun e => decide (e.1 = key)) l ex hl fun e he => find1_w e key (hin e he) hk⟩
  rcases idxK_found (p := fun e => decide (e.1 = key)) (l := l) l.length 0 (by omega) with ⟨h1, h2⟩ | ⟨i0, h1, -, h3, h4, h5⟩
  · rw [← hA] at h1
    have e : findK l key = ((zeroV, []), false) := find_none fun x hx => by
      obtain ⟨j, hj, rfl⟩ := getD_mem hx
      exact of_decide_eq_false (h2 j (Nat.zero_le _) hj)
    rw [e]
    have d1 : decide (A < 0) = true := decide_eq_true (by omega)
    clear hA h2 e hin
    as_aux_lemma =>
      repeat' (first | refine rnC ?_ | refine rnSB ?_ | refine rnG ?_ | refine rnU ?_ | ((fail_if_success (refine rnKn ?_)); refine rnP ?_ ?_ <;> (intro hq; try (have hq' := hq; simp only [hqs] at hq'))) | refine rkC ?_ | refine rkSB ?_ | refine rkF ?_ | refine rkU ?_ | ((fail_if_success (refine rkKn ?_)); refine rkP ?_ ?_ <;> (intro hq; try (have hq' := hq; simp only [hqs] at hq'))) | refine stp ?_ | refine ifT ?_ | refine ifF ?_ | (refine ifQ ?_ ?_ <;> (try (intro hn))) | (refine ifB ?_ ?_ <;> (intro hq; try (have hq' := hq; simp only [hqs] at hq'))))
      exact rc2 rfl rfl rfl rfl rfl rfl fin9 rfl finS_p rfl
  · rw [← hA] at h1
    have e : findK l key = ((l.getD i0 default).2, true) := find_is h3 (of_decide_eq_true h4) fun j hj => of_decide_eq_false (h5 j (Nat.zero_le _) hj)
    rw [e]
    have d1 : decide (A < 0) = false := decide_eq_false (by omega)
    have hA0 : 0 ≤ A := by omega
    have hA1 : A < l.length := by omega
    have ei : i0 = A.toNat := by omega
    rw [ei]
    clear hA h5 e hin h4 h3 h1 ei
    as_aux_lemma =>
      repeat' (first | refine rnC ?_ | refine rnSB ?_ | refine rnG ?_ | refine rnU ?_ | ((fail_if_success (refine rnKn ?_)); refine rnP ?_ ?_ <;> (intro hq; try (have hq' := hq; simp only [hqs] at hq'))) | refine rkC ?_ | refine rkSB ?_ | refine rkF ?_ | refine rkU ?_ | ((fail_if_success (refine rkKn ?_)); refine rkP ?_ ?_ <;> (intro hq; try (have hq' := hq; simp only [hqs] at hq'))) | refine stp ?_ | refine ifT ?_ | refine ifF ?_ | (refine ifQ ?_ ?_ <;> (try (intro hn))) | (refine ifB ?_ ?_ <;> (intro hq; try (have hq' := hq; simp only [hqs] at hq'))))
      exact rc2 rfl rfl rfl rfl rfl rfl finL_p rfl finS_p rfl
end Go.Proofs.Ytbfjcohocedoaaa.Wi
namespace Go.Proofs.Ytbfjcohocedoaaa.Wi
open Go Go.RowKit Go.Aw Go.Aw.Cart Go.Proofs.Ytbfjcohocedoaaa.Ca
set_option linter.unusedVariables false
set_option linter.unusedSimpArgs false
set_option maxRecDepth 8000
set_option maxHeartbeats 4000000
/-- no element, written out: it grows from now on -/
theorem lop_bzK {C : Ctx} {o : Oper} {σ : St} {T e : TypeId} {sz by_ : Nat} {ke : TK} {be : Nat} {z : List Value} {d n0 : Nat} {mo0 : Option MO} (ho : o.op = .buildSlice T 0 #[]) (hT : TI C.P T (.slice e) sz by_) (he : TI C.P e ke 10 be) (hz : TZ C.P e z) (hdst : o.dst = some d) (hm0 : σ.mem d = (n0, mo0)) (hd : dOk C o.dst = true) :
    LOp C o σ ⟨.o (.osl d n0 10 0 ([] : List Kd).length), [(d, (n0 + 1, some (.buf e 10 (([] : List Kd).map kR))))]⟩ (fun q => q == d) := lop_bo0 ho hT he hz hdst hm0 (by decide) hd
/-- one element, written out: an own slice -/
theorem lop_boK {C : Ctx} {o : Oper} {σ : St} {T e : TypeId} {sz by_ : Nat} {ke : TK} {be : Nat} {z : List Value} {d n0 : Nat} {mo0 : Option MO} {x0 : Operand} {k : Kd} (ho : o.op = .buildSlice T 1 #[(0, x0)]) (hT : TI C.P T (.slice e) sz by_) (he : TI C.P e ke 10 be) (hz : TZ C.P e z) (hdst : o.dst = some d) (hm0 : σ.mem d = (n0, mo0)) (h0 : σ.look x0 = .a (kL k)) (hd : dOk C o.dst = true) :
    LOp C o σ ⟨.o (.osl d n0 10 0 1), [(d, (n0 + 1, some (.buf e 10 [kR k])))]⟩ (fun q => q == d) := lop_buildO (ps := [(0, kR k)]) ho hdst hm0 (.cons ⟨rfl, rfl, _, h0, rfl⟩ .nil) rfl (by decide) (by decide) hd
namespace WD
theorem lopC {C : Ctx} {o : Oper} {σ : St} {e : Eff} {ro : Nat → Bool} (h : LOp C o σ e ro := by
    first | (apply lop_bzK; (focus rfl); (focus exact inferInstance); (focus exact inferInstance); (focus exact inferInstance); (focus rfl); (focus rfl); (focus rfl)) | (apply lop_boK; (focus rfl); (focus exact inferInstance); (focus exact inferInstance); (focus exact inferInstance); (focus rfl); (focus rfl); (focus rfl); (focus rfl)) | (apply gLoad; (focus rfl); apply lop_ld_bf; (focus rfl); (focus exact inferInstance); (focus rfl); (focus rfl); (focus rfl); (focus rfl); (focus rfl); (focus omega); (focus exact inferInstance); (focus rfl); (focus rfl)) | exact WC.lopC | fail) : LOp C o σ e ro := h
section steps
variable {C : Ctx} {ops : Array Oper} {o : Oper} {rest : List Oper} {K : St → Prop} {σ : St} {e : Eff} {ro : Nat → Bool} {W : List (Nat × Nat)} {i : Nat}
theorem rnC {d : Nat} (hk : RunN C ops rest K (e.app (some d) σ)) (hg : Guard ops σ o true := by first | exact gd_n rfl rfl | exact gd_t rfl rfl rfl rfl | exact gd_t rfl rfl rfl (by assumption)) (hd : o.dst = some d := by rfl) (h : LOp C o σ e ro := by exact lopC) : RunN C ops (o :: rest) K σ := rn_any hg hd h hk
theorem rkC {d : Nat} (hk : RunK C ops W (i + 1) rest K (e.app (some d) σ)) (hg : Guard ops σ o true := by first | exact gd_n rfl rfl | exact gd_t rfl rfl rfl rfl | exact gd_t rfl rfl rfl (by assumption)) (hd' : o.dst = some d := by rfl) (hd : dOk C o.dst = true := by rfl) (h : LOp C o σ e ro := by exact lopC)
    (hro : ∀ x, ro x = true → okObj ops W i x = true := by first | exact fun _ => ro_none | exact ro_one rfl | exact ro_k1 rfl | exact ro_one (by kernel_rfl) | exact ro_k1 (by kernel_rfl) | exact ro_kIn (by decide)) (hob : ∀ p ∈ e.obj, (i, p.1) ∈ W := by first | exact ob_none | exact ob_one (by decide) | decide) : RunK C ops W i (o :: rest) K σ := rk_wr hg hd' hd h hro hob hk
end steps
end WD
open WD
theorem cloneK_o (l : List Kd) (ex : Bool) (h : l.length ≤ 1000000) : OCall Try.prog 47 [.p (.sl 10 (l.map kR) ex)] (fun _ => (0, none)) (.o (.osl 5 1 10 0 l.length)) (memL [(5, (2, some (.buf 36 10 (l.map kR))))]) := by
  refine ocall_ofF 5 Try.func47 rfl (fun w0 F S0 M0 => ?_)
  repeat' (first | refine rnC ?_ | refine rnSB ?_ | refine rnG ?_ | refine rnU ?_ | ((fail_if_success (refine rnKn ?_)); refine rnP ?_ ?_ <;> (intro hq; try (have hq' := hq; simp only [hqs] at hq'))) | refine rkC ?_ | refine rkSB ?_ | refine rkF ?_ | refine rkU ?_ | ((fail_if_success (refine rkKn ?_)); refine rkP ?_ ?_ <;> (intro hq; try (have hq' := hq; simp only [hqs] at hq'))) | refine stpR ?_ | refine ifT ?_ | refine ifF ?_ | (refine ifQ ?_ ?_ <;> (try (intro hn))) | (refine ifB ?_ ?_ <;> (intro hq; try (have hq' := hq; simp only [hqs] at hq'))))
  · have e : l = [] := List.eq_nil_of_length_eq_zero (by have := congrArg List.length hn; rwa [List.length_map, List.length_nil] at this)
    subst e
    refine aws_says (says_bump (o := 5) (ty := 36) (es := 10) rfl (by decide)) ?_
    refine aws_says (says_nil (t := 2) (o := 5) (ty := 36) (es := 10) rfl rfl (by decide)) ?_
    as_aux_lemma =>
      repeat' (first | refine rnC ?_ | refine rnSB ?_ | refine rnG ?_ | refine rnU ?_ | ((fail_if_success (refine rnKn ?_)); refine rnP ?_ ?_ <;> (intro hq; try (have hq' := hq; simp only [hqs] at hq'))) | refine rkC ?_ | refine rkSB ?_ | refine rkF ?_ | refine rkU ?_ | ((fail_if_success (refine rkKn ?_)); refine rkP ?_ ?_ <;> (intro hq; try (have hq' := hq; simp only [hqs] at hq'))) | refine stp ?_ | refine ifT ?_ | refine ifF ?_ | (refine ifQ ?_ ?_ <;> (try (intro hn))) | (refine ifB ?_ ?_ <;> (intro hq; try (have hq' := hq; simp only [hqs] at hq'))))
      exact RetO.mk (ot1 rfl rfl (.one (.kosl rfl)) rfl) ⟨.buf, trivial⟩
  · repeat' (first | refine rnC ?_ | refine rnSB ?_ | refine rnG ?_ | refine rnU ?_ | ((fail_if_success (refine rnKn ?_)); refine rnP ?_ ?_ <;> (intro hq; try (have hq' := hq; simp only [hqs] at hq'))) | refine rkC ?_ | refine rkSB ?_ | refine rkF ?_ | refine rkU ?_ | ((fail_if_success (refine rkKn ?_)); refine rkP ?_ ?_ <;> (intro hq; try (have hq' := hq; simp only [hqs] at hq'))) | refine stp ?_ | refine ifT ?_ | refine ifF ?_ | (refine ifQ ?_ ?_ <;> (try (intro hn))) | (refine ifB ?_ ?_ <;> (intro hq; try (have hq' := hq; simp only [hqs] at hq'))))
    exact RetO.mk (ot1 rfl rfl (.one (.kosl rfl)) rfl) ⟨.buf, trivial⟩
instance cloneK_i {c k : Nat} {l : List Kd} {ex : Bool} : OC Try.prog 47 [.p (.sl 10 (l.map kR) ex)] [] [(c, k)] (l.length ≤ 1000000) (.o (.osl c (k + 1) 10 0 l.length)) [(c, (k + 2, some (.buf 36 10 (l.map kR))))] := ⟨fun h => (cloneK_o l ex h).fresh1 c k⟩
end Go.Proofs.Ytbfjcohocedoaaa.Wi
namespace Go.Proofs.Ytbfjcohocedoaaa.Wi
open Go Go.RowKit Go.Aw Go.Aw.Cart Go.Proofs.Ytbfjcohocedoaaa.Ca
set_option linter.unusedVariables false
set_option linter.unusedSimpArgs false
set_option maxRecDepth 8000
set_option maxHeartbeats 4000000
/-- an element of an own list -/
theorem lop_ld_bK {C : Ctx} {o : Oper} {σ : St} {l : List Kd} {T : TypeId} {x : Operand} {k : TK} {sz by_ : Nat} {ob g n ty i : Nat} (ho : o.op = .load T x) (hT : TI C.P T k sz by_) (hx : σ.look x = .o (.ptr ob g (i * sz))) (hm : σ.mem ob = (n, some (.buf ty sz (l.map kR)))) (hn : n = g + 1)
    (hk : k.agg = true) (hi : i < l.length) (hd : dOk C o.dst = true) : LOp C o σ ⟨.a (kL (l.getD i default)), []⟩ (fun y => y == ob) :=
  lop_ld_bk ho hT hx hm inferInstance hn hk hi rfl hd
/-- an element into an own list -/
theorem lop_st_bK {C : Ctx} {o : Oper} {σ : St} {l : List Kd} {v : Kd} {T : TypeId} {x y : Operand} {k : TK} {sz by_ : Nat} {ob g n ty i : Nat} (ho : o.op = .store T x y) (hT : TI C.P T k sz by_) (hdst : o.dst = none) (hx : σ.look x = .o (.ptr ob g (i * sz))) (hy : σ.look y = .a (kL v))
    (hm : σ.mem ob = (n, some (.buf ty sz (l.map kR)))) (hs : 10 = sz) (hn : n = g + 1) (hi : i < l.length) : LOp C o σ ⟨.un, [(ob, (n, some (.buf ty sz ((l.set i v).map kR))))]⟩ (fun z => z == ob) := by
  have := lop_store_row (C := C) (o := o) (s := .agg (kL v)) (row := kR v) ho hdst hx hy rfl hs hm hn (by simpa using hi)
  rwa [← List.map_set] at this
namespace B1
theorem lopC {C : Ctx} {o : Oper} {σ : St} {e : Eff} {ro : Nat → Bool} (h : LOp C o σ e ro := by
    first | (apply gLoad; (focus rfl); apply lop_ld_bK; (focus rfl); (focus exact inferInstance); (focus rfl); (focus rfl); (focus rfl); (focus rfl); (focus omega); (focus rfl)) | (apply lop_lend2; (focus rfl); (focus exact inferInstance); (focus rfl); (focus rfl); (focus rfl); (focus exact (List.length_map ..).symm); (focus first | exact lk_m1 rfl | exact lk_m2 rfl | exact lk_m3 rfl | exact lk_o rfl | exact lk_a2 rfl | exact lk_a3 rfl | exact lk_a4 rfl | exact lk_a1 rfl | exact lk_a5 rfl | exact lk_a6 rfl | exact lk_a7 rfl | exact lk_a8 rfl | exact lk_a rfl); (focus exact inferInstance); (focus exact inferInstance); (focus first | exact True.intro | assumption | rfl | omega | ((repeat' (first | assumption | refine And.intro ?_ ?_ | omega | rfl)); done) | fail); (focus exact RV.v); (focus rfl)) | exact WC.lopC | exact lopQ | fail) : LOp C o σ e ro := h
section steps
variable {C : Ctx} {ops : Array Oper} {o : Oper} {rest : List Oper} {K : St → Prop} {σ : St} {e : Eff} {ro : Nat → Bool} {W : List (Nat × Nat)} {i : Nat}
theorem rnC {d : Nat} (hk : RunN C ops rest K (e.app (some d) σ)) (hg : Guard ops σ o true := by first | exact gd_n rfl rfl | exact gd_t rfl rfl rfl rfl | exact gd_t rfl rfl rfl (by assumption)) (hd : o.dst = some d := by rfl) (h : LOp C o σ e ro := by exact lopC) : RunN C ops (o :: rest) K σ := rn_any hg hd h hk
theorem rkC {d : Nat} (hk : RunK C ops W (i + 1) rest K (e.app (some d) σ)) (hg : Guard ops σ o true := by first | exact gd_n rfl rfl | exact gd_t rfl rfl rfl rfl | exact gd_t rfl rfl rfl (by assumption)) (hd' : o.dst = some d := by rfl) (hd : dOk C o.dst = true := by rfl) (h : LOp C o σ e ro := by exact lopC)
    (hro : ∀ x, ro x = true → okObj ops W i x = true := by first | exact fun _ => ro_none | exact ro_one rfl | exact ro_k1 rfl | exact ro_one (by kernel_rfl) | exact ro_k1 (by kernel_rfl) | exact ro_kIn (by decide)) (hob : ∀ p ∈ e.obj, (i, p.1) ∈ W := by first | exact ob_none | exact ob_one (by decide) | decide) : RunK C ops W i (o :: rest) K σ := rk_wr hg hd' hd h hro hob hk
end steps
end B1
open B1
theorem filterK_take {p : Kd → Bool} {l : List Kd} {k : Nat} (hk : k ≤ l.length) (h : ∀ i : Nat, i < k → p (l.getD i default) = false) : (l.take k).filter (fun e => !p e) = l.take k := by
  rw [List.filter_eq_self]
  intro a ha
  obtain ⟨i, hi, rfl⟩ := List.mem_iff_getElem.1 ha
  rw [List.length_take] at hi
  have := h i (by omega : i < k)
  rw [List.getD_eq_getElem?_getD, List.getElem?_eq_getElem (by omega)] at this
  rw [List.getElem_take]
  simpa using this
theorem takeK_get {l : List Kd} {k : Nat} (h : k < l.length) : l.take (k + 1) = l.take k ++ [l.getD k default] := by
  rw [List.take_succ_eq_append_getElem h, List.getD_eq_getElem?_getD, List.getElem?_eq_getElem h]; rfl
theorem deleteFuncK_o (f : FuncId) (caps : List PVal) (hf : FnT Try.prog f) (p : Kd → Bool) (n : Nat) (l : List Kd) (h : l.length ≤ 1000000000) (hp : ∀ e ∈ l, PCall Try.prog f ([kV e] ++ caps.map .p) (.p (.b (p e)))) : OCall Try.prog 50 [.o (.osl 1000 n 10 0 l.length), .p (.fnv f caps)] (memL [(1000, (n + 1, some (.buf 36 10 (l.map kR))))]) (.o (.osl 1000 n 10 0 (l.filter fun e => !p e).length)) (memL [(1000, (n + 1, some (.buf 36 10 ((l.filter fun e => !p e).map kR))))]) := by
  refine ocall_of1 Try.func50 rfl (fun w0 F S0 M0 => ?_)
  obtain ⟨L, hL⟩ : ∃ L, L = (l.filter fun e => !p e).length := ⟨_, rfl⟩
  obtain ⟨A, hA⟩ : ∃ A, A = l.filter fun e => !p e := ⟨_, rfl⟩
  rw [← hL, ← hA]
  have cI := indexFuncK_w f caps hf p l false h hp
  have hmem : ∀ j, j < l.length → l.getD j default ∈ l := fun j hj => by rw [getD_at hj]; exact List.getElem_mem hj
  rcases idxK_found (p := p) (l := l) l.length 0 (by omega) with ⟨hi, hno⟩ | ⟨i0, hi, -, hil, hpi, hno⟩
  · rw [hi] at cI
    haveI : PC Try.prog 28 [.p (.sl 10 (l.map kR) false), .p (.fnv f caps)] True (.p (.i (-1))) := ⟨fun _ => cI⟩
    have e := filterK_take (Nat.le_refl _) (fun i hi => hno i (Nat.zero_le _) hi)
    rw [List.take_length] at e
    rw [e] at hL hA
    subst hL hA
    as_aux_lemma =>
      repeat' (first | refine rnC ?_ | refine rnSQ ?_ | refine rnG ?_ | refine rnU ?_ | ((fail_if_success (refine rnKn ?_)); refine rnP ?_ ?_ <;> (intro hq; try (have hq' := hq; simp only [hqs] at hq'))) | refine rkC ?_ | refine rkSQ ?_ | refine rkF ?_ | refine rkU ?_ | ((fail_if_success (refine rkKn ?_)); refine rkP ?_ ?_ <;> (intro hq; try (have hq' := hq; simp only [hqs] at hq'))) | refine stp ?_ | refine ifT ?_ | refine ifF ?_ | (refine ifQ ?_ ?_ <;> (try (intro hn))) | (refine ifB ?_ ?_ <;> (intro hq; try (have hq' := hq; simp only [hqs] at hq'))))
      exact RetO.mk (ot1 rfl rfl (.one (.kosl rfl)) rfl) ⟨.buf, trivial⟩
  · rw [hi] at cI
    haveI : PC Try.prog 28 [.p (.sl 10 (l.map kR) false), .p (.fnv f caps)] True (.p (.i i0)) := ⟨fun _ => cI⟩
    have e0 : (l.take (i0 + 1)).filter (fun e => !p e) = l.take i0 := by
      rw [takeK_get hil, List.filter_append, filterK_take (by omega) (fun i hi => hno i (Nat.zero_le _) hi)]
      rw [List.filter_cons_of_neg (by rw [hpi]; simp), List.filter_nil, List.append_nil]
    have d2 : decide ((i0 : Int) = -1) = false := decide_eq_false (by omega)
    repeat' (first | refine rnC ?_ | refine rnSQ ?_ | refine rnG ?_ | refine rnU ?_ | ((fail_if_success (refine rnKn ?_)); refine rnP ?_ ?_ <;> (intro hq; try (have hq' := hq; simp only [hqs] at hq'))) | refine rkC ?_ | refine rkSQ ?_ | refine rkF ?_ | refine rkU ?_ | ((fail_if_success (refine rkKn ?_)); refine rkP ?_ ?_ <;> (intro hq; try (have hq' := hq; simp only [hqs] at hq'))) | refine stp ?_ | refine ifT ?_ | refine ifF ?_ | (refine ifQ ?_ ?_ <;> (try (intro hn))) | (refine ifB ?_ ?_ <;> (intro hq; try (have hq' := hq; simp only [hqs] at hq'))))
    refine aws_loopS [5, 6, 7, 16, 17, 18, 19, 20, 21, 22, 23, 24, 25, 26, 27, 28, 29, 30, 31, 32, 33, 34, 35] [1000, 7] (fun (x : Nat × Nat × List Kd × Option MO) => [(6, .p (.i (i0 + 1 + x.1 : Nat))), (5, .p (.i x.2.1))]) (fun x => [(1000, (n + 1, some (.buf 36 10 (x.2.2.1.map kR)))), (7, (x.1, x.2.2.2))])
      (fun x => i0 + 1 + x.1 ≤ l.length ∧ x.2.1 < i0 + 1 + x.1 ∧ x.2.2.1.length = l.length ∧ x.2.2.1.take x.2.1 = (l.take (i0 + 1 + x.1)).filter (fun e => !p e) ∧ ∀ i, i0 + 1 + x.1 ≤ i → x.2.2.1.getD i default = l.getD i default)
      (fun x => l.length - x.1) (0, i0, l, none) ⟨by dsimp only; omega, by dsimp only; omega, rfl, e0.symm, fun i _ => rfl⟩ (by exact knA) (by exact knA) ?_
    rintro ⟨j, q, m, c7⟩ β γ ⟨hjl, hqj, hml, hmc, hmr⟩
    simp only at hjl hqj hml hmc hmr
    dsimp only
    by_cases hjn : i0 + 1 + j < l.length
    · have hd2 : decide (((i0 + 1 + j : Nat) : Int) < (l.length : Int)) = true := decide_eq_true (by omega)
      have hm0 : m.getD ((i0 + 1 + j : Nat) : Int).toNat default = l.getD (i0 + 1 + j) default := by rw [Int.toNat_natCast]; exact hmr _ (by omega)
      have hct : (l.take (i0 + 1 + (j + 1))).filter (fun e => !p e) = (l.take (i0 + 1 + j)).filter (fun e => !p e) ++ (if p (l.getD (i0 + 1 + j) default) = true then [] else [l.getD (i0 + 1 + j) default]) := by
        rw [← Nat.add_assoc, takeK_get hjn, List.filter_append]
        congr 1
        by_cases hx : p (l.getD (i0 + 1 + j) default) = true
        · rw [if_pos hx, List.filter_cons_of_neg (by rw [hx]; simp), List.filter_nil]
        · rw [if_neg hx, List.filter_cons_of_pos (by rw [Bool.eq_false_iff.2 hx]; rfl), List.filter_nil]
      have hpe : PCall Try.prog f ([kV (m.getD ((i0 + 1 + j : Nat) : Int).toNat default)] ++ caps.map .p) (.p (.b (p (m.getD ((i0 + 1 + j : Nat) : Int).toNat default)))) := by
        rw [hm0]; exact hp _ (hmem _ hjn)
      haveI : PC Try.prog f ([kV (m.getD ((i0 + 1 + j : Nat) : Int).toNat default)] ++ caps.map .p) True (.p (.b (p (m.getD ((i0 + 1 + j : Nat) : Int).toNat default)))) := ⟨fun _ => hpe⟩
      cases hv : p (m.getD ((i0 + 1 + j : Nat) : Int).toNat default) with
      | true =>
        have hv1 : (!p (m.getD ((i0 + 1 + j : Nat) : Int).toNat default)) = false := by rw [hv]; rfl
        rw [hm0] at hv
        rw [if_pos hv, List.append_nil] at hct
        as_aux_lemma =>
          repeat' (first | refine rnC ?_ | refine rnSQ ?_ | refine rnG ?_ | refine rnU ?_ | ((fail_if_success (refine rnKn ?_)); refine rnP ?_ ?_ <;> (intro hq; try (have hq' := hq; simp only [hqs] at hq'))) | refine rkC ?_ | refine rkSQ ?_ | refine rkF ?_ | refine rkU ?_ | ((fail_if_success (refine rkKn ?_)); refine rkP ?_ ?_ <;> (intro hq; try (have hq' := hq; simp only [hqs] at hq'))) | refine stp ?_ | refine ifT ?_ | refine ifF ?_ | (refine ifQ ?_ ?_ <;> (try (intro hn))) | (refine ifB ?_ ?_ <;> (intro hq; try (have hq' := hq; simp only [hqs] at hq'))))
          exact ⟨(j + 1, q, m, some (.box 36 (kL (m.getD ((i0 + 1 + j : Nat) : Int).toNat default)))), _, by dsimp only; omega, ⟨by dsimp only; omega, by dsimp only; omega, hml, by dsimp only; rw [hmc, hct], fun i hi => hmr i (by dsimp only at hi; omega)⟩, .refl, by exact frA⟩
      | false =>
        have hv1 : (!p (m.getD ((i0 + 1 + j : Nat) : Int).toNat default)) = true := by rw [hv]; rfl
        rw [hm0] at hv
        rw [if_neg (by rw [hv]; simp)] at hct
        repeat' (first | refine rnC ?_ | refine rnSQ ?_ | refine rnG ?_ | refine rnU ?_ | ((fail_if_success (refine rnKn ?_)); refine rnP ?_ ?_ <;> (intro hq; try (have hq' := hq; simp only [hqs] at hq'))) | refine rkC ?_ | refine rkSQ ?_ | refine rkF ?_ | refine rkU ?_ | ((fail_if_success (refine rkKn ?_)); refine rkP ?_ ?_ <;> (intro hq; try (have hq' := hq; simp only [hqs] at hq'))) | refine stp ?_ | refine ifT ?_ | refine ifF ?_ | (refine ifQ ?_ ?_ <;> (try (intro hn))) | (refine ifB ?_ ?_ <;> (intro hq; try (have hq' := hq; simp only [hqs] at hq'))))
        refine rn_sto (gd_n rfl rfl) rfl (lop_st_bK rfl inferInstance rfl rfl rfl rfl rfl rfl (by omega)) ?_
        as_aux_lemma =>
          repeat' (first | refine rnC ?_ | refine rnSQ ?_ | refine rnG ?_ | refine rnU ?_ | ((fail_if_success (refine rnKn ?_)); refine rnP ?_ ?_ <;> (intro hq; try (have hq' := hq; simp only [hqs] at hq'))) | refine rkC ?_ | refine rkSQ ?_ | refine rkF ?_ | refine rkU ?_ | ((fail_if_success (refine rkKn ?_)); refine rkP ?_ ?_ <;> (intro hq; try (have hq' := hq; simp only [hqs] at hq'))) | refine stp ?_ | refine ifT ?_ | refine ifF ?_ | (refine ifQ ?_ ?_ <;> (try (intro hn))) | (refine ifB ?_ ?_ <;> (intro hq; try (have hq' := hq; simp only [hqs] at hq'))))
          refine ⟨(j + 1, q + 1, m.set (q : Int).toNat (m.getD ((i0 + 1 + j : Nat) : Int).toNat default), some (.box 36 (kL (m.getD ((i0 + 1 + j : Nat) : Int).toNat default)))), _, by dsimp only; omega, ⟨by dsimp only; omega, by dsimp only; omega, by dsimp only; rw [List.length_set]; exact hml, ?_, fun i hi => ?_⟩, .refl, by exact frA⟩
          · dsimp only
            rw [hm0, hct, ← hmc, Int.toNat_natCast, List.take_succ_eq_append_getElem (by rw [List.length_set]; omega), List.getElem_set_self, List.take_set_of_le (Nat.le_refl _)]
          · dsimp only at hi ⊢
            rw [List.getD_eq_getElem?_getD, List.getElem?_set_ne (by rw [Int.toNat_natCast]; omega), ← List.getD_eq_getElem?_getD]
            exact hmr i (by omega)
    · have hd2 : decide (((i0 + 1 + j : Nat) : Int) < (l.length : Int)) = false := decide_eq_false (by omega)
      have e1 : l.take (i0 + 1 + j) = l := List.take_of_length_le (by omega)
      rw [e1] at hmc
      have hA' : A = m.take (q : Int).toNat := by rw [hA, ← hmc, Int.toNat_natCast]
      have hL' : L = (q : Int).toNat := by rw [hL, ← hmc, List.length_take, Int.toNat_natCast]; omega
      rw [hA', hL']
      as_aux_lemma =>
        repeat' (first | refine rnC ?_ | refine rnSQ ?_ | refine rnG ?_ | refine rnU ?_ | ((fail_if_success (refine rnKn ?_)); refine rnP ?_ ?_ <;> (intro hq; try (have hq' := hq; simp only [hqs] at hq'))) | refine rkC ?_ | refine rkSQ ?_ | refine rkF ?_ | refine rkU ?_ | ((fail_if_success (refine rkKn ?_)); refine rkP ?_ ?_ <;> (intro hq; try (have hq' := hq; simp only [hqs] at hq'))) | refine stp ?_ | refine ifT ?_ | refine ifF ?_ | (refine ifQ ?_ ?_ <;> (try (intro hn))) | (refine ifB ?_ ?_ <;> (intro hq; try (have hq' := hq; simp only [hqs] at hq'))))
        exact RetO.mk (ot1 rfl rfl (.one (.kosl rfl)) rfl) ⟨.buf, trivial⟩
end Go.Proofs.Ytbfjcohocedoaaa.Wi
