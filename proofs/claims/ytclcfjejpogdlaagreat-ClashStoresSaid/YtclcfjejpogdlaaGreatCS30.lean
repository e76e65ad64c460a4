/- buckets in plain Lean; packs: a key's cart found; packs: a list with another cart: copies -/
import Derived.Test.YtclcfjejpogdlaaGreatCS23
import Derived.Test.YtclcfjejpogdlaaGreatCS29
namespace Go.Proofs.YtclcfjejpogdlaaGreat.Wi
open Go Go.RowKit Go.Aw Go.Aw.Cart Go.Proofs.YtclcfjejpogdlaaGreat.Ca Go.Proofs.YtclcfjejpogdlaaGreat.Rg
set_option linter.unusedVariables false
set_option linter.unusedSimpArgs false
/-- nothing is known of a cart -/
def emptyF (c : Crt) : Bool := sameF c.1 zeroV c.2 []
/-- what stands in no bucket -/
def offF (e : Kd) : Bool := emptyF e.2 || !keyR e.1
/-- what stands in buckets -/
def stF (l : List Kd) : List Kd := l.filter fun e => !offF e
def inB (part : Int) (j : Nat) (e : Kd) : Bool := decide ((partF e.1 : Int) = part) && decide (leafF e.1 = j)
/-- a list's buckets -/
def bkF (part : Int) (L : List Kd) : List (List Kd) := (List.range 16).map fun j => L.filter (inB part j)
def bktsF (l : List Kd) (part : Int) : List (List Kd) := if keysF l = true then bkF part (stF l) else List.replicate 16 []
theorem bkF_len (part : Int) (L : List Kd) : (bkF part L).length = 16 := by simp [bkF]
theorem bkF_get (part : Int) (L : List Kd) {j : Nat} (h : j < 16) : (bkF part L).getD j [] = L.filter (inB part j) := by
  unfold bkF
  rw [List.getD_eq_getElem?_getD, List.getElem?_map, List.getElem?_range h]; rfl
theorem bkts_len (l : List Kd) (part : Int) : (bktsF l part).length = 16 := by
  unfold bktsF
  split
  · exact bkF_len _ _
  · rfl
theorem leaf_lt (k : List Nat) : leafF k < 16 := Nat.mod_lt _ (by decide)
theorem bk_ext {a b : List (List Kd)} (ha : a.length = 16) (hb : b.length = 16) (h : ∀ j, j < 16 → a.getD j [] = b.getD j []) : a = b := by
  refine List.ext_getElem (ha.trans hb.symm) fun i h1 h2 => ?_
  have := h i (by omega)
  rwa [List.getD_eq_getElem?_getD, List.getD_eq_getElem?_getD, List.getElem?_eq_getElem h1, List.getElem?_eq_getElem h2] at this
theorem bk_skip {part : Int} {L : List Kd} {e : Kd} (h : (partF e.1 : Int) ≠ part) : bkF part (L ++ [e]) = bkF part L := by
  refine bk_ext (bkF_len _ _) (bkF_len _ _) fun j hj => ?_
  rw [bkF_get _ _ hj, bkF_get _ _ hj, List.filter_append]
  have : inB part j e = false := by unfold inB; rw [decide_eq_false h]; rfl
  rw [List.filter_cons_of_neg (by rw [this]; simp), List.filter_nil, List.append_nil]
theorem bk_put {part : Int} {L : List Kd} {e : Kd} (h : (partF e.1 : Int) = part) : bkF part (L ++ [e]) = (bkF part L).set (leafF e.1) ((bkF part L).getD (leafF e.1) [] ++ [e]) := by
  refine bk_ext (bkF_len _ _) (by rw [List.length_set]; exact bkF_len _ _) fun j hj => ?_
  have hlf := leaf_lt e.1
  rw [bkF_get _ _ hj, List.filter_append]
  by_cases q : leafF e.1 = j
  · have : inB part j e = true := by unfold inB; rw [decide_eq_true h, decide_eq_true q]; rfl
    rw [List.filter_cons_of_pos this, List.filter_nil]
    subst q
    rw [List.getD_eq_getElem?_getD, List.getElem?_set_self (by rw [bkF_len]; exact hlf), bkF_get _ _ hlf]; rfl
  · have : inB part j e = false := by unfold inB; rw [decide_eq_false q, Bool.and_false]
    rw [List.filter_cons_of_neg (by rw [this]; simp), List.filter_nil, List.append_nil]
    rw [List.getD_eq_getElem?_getD, List.getElem?_set_ne q, ← List.getD_eq_getElem?_getD, bkF_get _ _ hj]
theorem st_sub {l : List Kd} : ∀ e ∈ stF l, e ∈ l := fun e h => (List.mem_filter.1 h).1
theorem st_len (l : List Kd) : (stF l).length ≤ l.length := List.length_filter_le _ _
theorem bk_sub {part : Int} {l : List Kd} {j : Nat} : ∀ e ∈ (bktsF l part).getD j [], e ∈ l := by
  intro e h
  unfold bktsF at h
  split at h
  · by_cases hj : j < 16
    · rw [bkF_get _ _ hj] at h
      exact st_sub e (List.mem_filter.1 h).1
    · rw [List.getD_eq_getElem?_getD, List.getElem?_eq_none (by rw [bkF_len]; omega)] at h
      cases h
  · rw [List.getD_eq_getElem?_getD, List.getElem?_replicate] at h
    split at h <;> cases h
end Go.Proofs.YtclcfjejpogdlaaGreat.Wi
namespace Go.Proofs.YtclcfjejpogdlaaGreat.Wi
open Go Go.RowKit Go.Aw Go.Aw.Cart Go.Proofs.YtclcfjejpogdlaaGreat.Ca
set_option linter.unusedVariables false
set_option linter.unusedSimpArgs false
set_option maxRecDepth 8000
set_option maxHeartbeats 4000000
abbrev kV (k : Kd) : AV := .a (kL k)
def idxK (p : Kd → Bool) (l : List Kd) (k : Nat) : Nat → Int
  | 0 => -1
  | n + 1 => if p (l.getD k default) = true then k else idxK p l (k + 1) n
theorem idxK_found {p : Kd → Bool} {l : List Kd} : ∀ (n k : Nat), k + n = l.length → (idxK p l k n = -1 ∧ ∀ i, k ≤ i → i < l.length → p (l.getD i default) = false) ∨ ∃ i0 : Nat, idxK p l k n = i0 ∧ k ≤ i0 ∧ i0 < l.length ∧ p (l.getD i0 default) = true ∧ ∀ i, k ≤ i → i < i0 → p (l.getD i default) = false
  | 0, k, h => .inl ⟨rfl, fun i h1 h2 => by omega⟩
  | n + 1, k, h => by
    rw [idxK]
    by_cases hp : p (l.getD k default) = true
    · rw [if_pos hp]; exact .inr ⟨k, rfl, Nat.le_refl _, by omega, hp, fun i h1 h2 => by omega⟩
    · rw [if_neg hp]
      have hp' := Bool.eq_false_iff.2 hp
      rcases idxK_found (p := p) (l := l) n (k + 1) (by omega) with ⟨h1, h2⟩ | ⟨i0, h1, h2, h3, h4, h5⟩
      · refine .inl ⟨h1, fun i a b => ?_⟩
        by_cases e : i = k
        · rw [e]; exact hp'
        · exact h2 i (by omega) b
      · refine .inr ⟨i0, h1, by omega, h3, h4, fun i a b => ?_⟩
        by_cases e : i = k
        · rw [e]; exact hp'
        · exact h5 i (by omega) b
namespace WC
theorem lopC {C : Ctx} {o : Oper} {σ : St} {e : Eff} {ro : Nat → Bool} (h : LOp C o σ e ro := by
    first | (apply lop_callv1; (focus rfl); (focus rfl); (focus assumption); (focus first | exact lk_o rfl | exact lk_a rfl); (focus exact inferInstance); (focus exact inferInstance); (focus exact True.intro); (focus rfl)) | (apply gBin; (focus rfl); apply lop_eqs; (focus rfl); (focus exact inferInstance); (focus rfl); (focus rfl); (focus assumption); (focus assumption); (focus rfl)) | exact W9.lopC | fail) : LOp C o σ e ro := h
section steps
variable {C : Ctx} {ops : Array Oper} {o : Oper} {rest : List Oper} {K : St → Prop} {σ : St} {e : Eff} {ro : Nat → Bool} {W : List (Nat × Nat)} {i : Nat}
theorem rnC {d : Nat} (hk : RunN C ops rest K (e.app (some d) σ)) (hg : Guard ops σ o true := by first | exact gd_n rfl rfl | exact gd_t rfl rfl rfl rfl | exact gd_t rfl rfl rfl (by assumption)) (hd : o.dst = some d := by rfl) (h : LOp C o σ e ro := by exact lopC) : RunN C ops (o :: rest) K σ := rn_any hg hd h hk
end steps
end WC
open WC
theorem indexFuncK_w (f : FuncId) (caps : List PVal) (hf : FnT Tryz.prog f) (p : Kd → Bool) (l : List Kd) (ex : Bool) (h : l.length ≤ 1000000000) (hp : ∀ e ∈ l, PCall Tryz.prog f ([kV e] ++ caps.map .p) (.p (.b (p e)))) : PCall Tryz.prog 226 [.p (.sl 10 (l.map kR) ex), .p (.fnv f caps)] (.p (.i (idxK p l 0 l.length))) := by
  refine pcall_of Tryz.func226 rfl (fun w0 F S0 M0 => ?_)
  obtain ⟨A, hA⟩ : ∃ A, A = idxK p l 0 l.length := ⟨_, rfl⟩
  rw [← hA]
  repeat' (first | refine rnC ?_ | refine rnSB ?_ | refine rnG ?_ | refine rnU ?_ | ((fail_if_success (refine rnKn ?_)); refine rnP ?_ ?_ <;> (intro hq; try (have hq' := hq; simp only [hqs] at hq'))) | refine rkC ?_ | refine rkSB ?_ | refine rkF ?_ | refine rkU ?_ | ((fail_if_success (refine rkKn ?_)); refine rkP ?_ ?_ <;> (intro hq; try (have hq' := hq; simp only [hqs] at hq'))) | refine stp ?_ | refine ifT ?_ | refine ifF ?_ | (refine ifQ ?_ ?_ <;> (try (intro hn))) | (refine ifB ?_ ?_ <;> (intro hq; try (have hq' := hq; simp only [hqs] at hq'))))
  refine aws_loopS [4, 5, 8, 9, 10, 11, 12, 13, 14, 15, 16, 17, 18] [] (fun (i : Nat) => [(8, .p (.i i))]) (fun _ => []) (fun i => i ≤ l.length ∧ A = idxK p l i (l.length - i)) (fun i => l.length - i) 0 ⟨Nat.zero_le _, hA⟩ (by exact knA) (by exact knA) ?_
  rintro i β γ ⟨hi, hx⟩
  by_cases hil : i < l.length
  · have hlt : decide ((i : Int) < l.length) = true := decide_eq_true (by omega)
    rw [show l.length - i = (l.length - (i + 1)) + 1 by omega, idxK] at hx
    haveI : PC Tryz.prog f ([kV (l.getD (i : Int).toNat default)] ++ caps.map .p) True (.p (.b (p (l.getD (i : Int).toNat default)))) := ⟨fun _ => hp _ (by rw [Int.toNat_natCast, getD_at hil]; exact List.getElem_mem _)⟩
    cases hv : p (l.getD (i : Int).toNat default) with
    | true =>
      have hv' := hv
      rw [Int.toNat_natCast] at hv'
      rw [if_pos hv'] at hx
      rw [hx]
      as_aux_lemma =>
        repeat' (first | refine rnC ?_ | refine rnSB ?_ | refine rnG ?_ | refine rnU ?_ | ((fail_if_success (refine rnKn ?_)); refine rnP ?_ ?_ <;> (intro hq; try (have hq' := hq; simp only [hqs] at hq'))) | refine rkC ?_ | refine rkSB ?_ | refine rkF ?_ | refine rkU ?_ | ((fail_if_success (refine rkKn ?_)); refine rkP ?_ ?_ <;> (intro hq; try (have hq' := hq; simp only [hqs] at hq'))) | refine stp ?_ | refine ifT ?_ | refine ifF ?_ | (refine ifQ ?_ ?_ <;> (try (intro hn))) | (refine ifB ?_ ?_ <;> (intro hq; try (have hq' := hq; simp only [hqs] at hq'))))
        exact rt1 rfl rfl finS_p rfl
    | false =>
      have hv' := hv
      rw [Int.toNat_natCast] at hv'
      rw [if_neg (by rw [hv']; simp)] at hx
      as_aux_lemma =>
        repeat' (first | refine rnC ?_ | refine rnSB ?_ | refine rnG ?_ | refine rnU ?_ | ((fail_if_success (refine rnKn ?_)); refine rnP ?_ ?_ <;> (intro hq; try (have hq' := hq; simp only [hqs] at hq'))) | refine rkC ?_ | refine rkSB ?_ | refine rkF ?_ | refine rkU ?_ | ((fail_if_success (refine rkKn ?_)); refine rkP ?_ ?_ <;> (intro hq; try (have hq' := hq; simp only [hqs] at hq'))) | refine stp ?_ | refine ifT ?_ | refine ifF ?_ | (refine ifQ ?_ ?_ <;> (try (intro hn))) | (refine ifB ?_ ?_ <;> (intro hq; try (have hq' := hq; simp only [hqs] at hq'))))
        exact ⟨i + 1, _, by omega, ⟨by omega, hx⟩, .refl, by exact frA⟩
  · have hlt : decide ((i : Int) < l.length) = false := decide_eq_false (by omega)
    rw [show l.length - i = 0 by omega, idxK] at hx
    rw [hx]
    as_aux_lemma =>
      repeat' (first | refine rnC ?_ | refine rnSB ?_ | refine rnG ?_ | refine rnU ?_ | ((fail_if_success (refine rnKn ?_)); refine rnP ?_ ?_ <;> (intro hq; try (have hq' := hq; simp only [hqs] at hq'))) | refine rkC ?_ | refine rkSB ?_ | refine rkF ?_ | refine rkU ?_ | ((fail_if_success (refine rkKn ?_)); refine rkP ?_ ?_ <;> (intro hq; try (have hq' := hq; simp only [hqs] at hq'))) | refine stp ?_ | refine ifT ?_ | refine ifF ?_ | (refine ifQ ?_ ?_ <;> (try (intro hn))) | (refine ifB ?_ ?_ <;> (intro hq; try (have hq' := hq; simp only [hqs] at hq'))))
      exact rt1 rfl rfl finS_p rfl
end Go.Proofs.YtclcfjejpogdlaaGreat.Wi
namespace Go.Proofs.YtclcfjejpogdlaaGreat.Wi
open Go Go.RowKit Go.Aw Go.Aw.Cart Go.Proofs.YtclcfjejpogdlaaGreat.Ca
set_option linter.unusedVariables false
set_option linter.unusedSimpArgs false
set_option maxRecDepth 8000
set_option maxHeartbeats 4000000
/-- no element, written out: it grows from now on -/
theorem lop_bzK {C : Ctx} {o : Oper} {σ : St} {T e : TypeId} {sz by_ : Nat} {ke : TK} {be : Nat} {z : List Value} {d n0 : Nat} {mo0 : Option MO} (ho : o.op = .buildSlice T 0 #[]) (hT : TI C.P T (.slice e) sz by_) (he : TI C.P e ke 10 be) (hz : TZ C.P e z) (hdst : o.dst = some d) (hm0 : σ.mem d = (n0, mo0)) (hd : dOk C o.dst = true) :
    LOp C o σ ⟨.o (.osl d n0 10 0 ([] : List Kd).length), [(d, (n0 + 1, some (.buf e 10 (([] : List Kd).map kR))))]⟩ (fun q => q == d) := lop_bo0 ho hT he hz hdst hm0 (by decide) hd
namespace WD
theorem lopC {C : Ctx} {o : Oper} {σ : St} {e : Eff} {ro : Nat → Bool} (h : LOp C o σ e ro := by
    first | (apply lop_bzK; (focus rfl); (focus exact inferInstance); (focus exact inferInstance); (focus exact inferInstance); (focus rfl); (focus rfl); (focus rfl)) | exact WC.lopC | fail) : LOp C o σ e ro := h
section steps
variable {C : Ctx} {ops : Array Oper} {o : Oper} {rest : List Oper} {K : St → Prop} {σ : St} {e : Eff} {ro : Nat → Bool} {W : List (Nat × Nat)} {i : Nat}
theorem rnC {d : Nat} (hk : RunN C ops rest K (e.app (some d) σ)) (hg : Guard ops σ o true := by first | exact gd_n rfl rfl | exact gd_t rfl rfl rfl rfl | exact gd_t rfl rfl rfl (by assumption)) (hd : o.dst = some d := by rfl) (h : LOp C o σ e ro := by exact lopC) : RunN C ops (o :: rest) K σ := rn_any hg hd h hk
end steps
end WD
open WD
theorem cloneK_o (l : List Kd) (ex : Bool) (h : l.length ≤ 1000000) : OCall Tryz.prog 169 [.p (.sl 10 (l.map kR) ex)] (fun _ => (0, none)) (.o (.osl 5 1 10 0 l.length)) (memL [(5, (2, some (.buf 148 10 (l.map kR))))]) := by
  refine ocall_ofF 5 Tryz.func169 rfl (fun w0 F S0 M0 => ?_)
  repeat' (first | refine rnC ?_ | refine rnSB ?_ | refine rnG ?_ | refine rnU ?_ | ((fail_if_success (refine rnKn ?_)); refine rnP ?_ ?_ <;> (intro hq; try (have hq' := hq; simp only [hqs] at hq'))) | refine rkC ?_ | refine rkSB ?_ | refine rkF ?_ | refine rkU ?_ | ((fail_if_success (refine rkKn ?_)); refine rkP ?_ ?_ <;> (intro hq; try (have hq' := hq; simp only [hqs] at hq'))) | refine stpR ?_ | refine ifT ?_ | refine ifF ?_ | (refine ifQ ?_ ?_ <;> (try (intro hn))) | (refine ifB ?_ ?_ <;> (intro hq; try (have hq' := hq; simp only [hqs] at hq'))))
  · have e : l = [] := List.eq_nil_of_length_eq_zero (by have := congrArg List.length hn; rwa [List.length_map, List.length_nil] at this)
    subst e
    refine aws_says (says_bump (o := 5) (ty := 148) (es := 10) rfl (by decide)) ?_
    refine aws_says (says_nil (t := 2) (o := 5) (ty := 148) (es := 10) rfl rfl (by decide)) ?_
    as_aux_lemma =>
      repeat' (first | refine rnC ?_ | refine rnSB ?_ | refine rnG ?_ | refine rnU ?_ | ((fail_if_success (refine rnKn ?_)); refine rnP ?_ ?_ <;> (intro hq; try (have hq' := hq; simp only [hqs] at hq'))) | refine rkC ?_ | refine rkSB ?_ | refine rkF ?_ | refine rkU ?_ | ((fail_if_success (refine rkKn ?_)); refine rkP ?_ ?_ <;> (intro hq; try (have hq' := hq; simp only [hqs] at hq'))) | refine stp ?_ | refine ifT ?_ | refine ifF ?_ | (refine ifQ ?_ ?_ <;> (try (intro hn))) | (refine ifB ?_ ?_ <;> (intro hq; try (have hq' := hq; simp only [hqs] at hq'))))
      exact RetO.mk (ot1 rfl rfl (.one (.kosl rfl)) rfl) ⟨.buf, trivial⟩
  · repeat' (first
    | refine rnC ?_
    | refine rnSB ?_
    | refine rnG ?_
    | refine rnU ?_
    | ((fail_if_success (refine rnKn ?_)); refine rnP ?_ ?_ <;> (intro hq; try (have hq' := hq; simp only [hqs] at hq')))
    | refine rkC ?_
    | refine rkSB ?_
    | refine rkF ?_
    | refine rkU ?_
    | ((fail_if_success (refine rkKn ?_)); refine rkP ?_ ?_ <;> (intro hq; try (have hq' := hq; simp only [hqs] at hq')))
    | refine stp ?_
    | refine ifT ?_
    | refine ifF ?_
    | (refine ifQ ?_ ?_ <;> (try (intro hn)))
    | (refine ifB ?_ ?_ <;> (intro hq; try (have hq' := hq; simp only [hqs] at hq'))))
    exact RetO.mk (ot1 rfl rfl (.one (.kosl rfl)) rfl) ⟨.buf, trivial⟩
instance cloneK_i {c k : Nat} {l : List Kd} {ex : Bool} : OC Tryz.prog 169 [.p (.sl 10 (l.map kR) ex)] [] [(c, k)] (l.length ≤ 1000000) (.o (.osl c (k + 1) 10 0 l.length)) [(c, (k + 2, some (.buf 148 10 (l.map kR))))] := ⟨fun h => (cloneK_o l ex h).fresh1 c k⟩
end Go.Proofs.YtclcfjejpogdlaaGreat.Wi
