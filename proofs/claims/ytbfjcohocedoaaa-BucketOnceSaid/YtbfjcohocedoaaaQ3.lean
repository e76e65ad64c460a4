/- packs in plain Lean: lists of carts by keys: their order, what is found, what another cart makes of them; packs: texts compared; a cart of bytes; which lists may be; packs: which lists may be; great ones -/
import Derived.Test.YtbfjcohocedoaaaQ0
import Derived.Test.YtbfjcohocedoaaaQ2
import Derived.Test.YtbfjcohocedoaaaKq
import Derived.Laws.Cover1
import Derived.Test.YtbfjcohocedoaaaCaV
namespace Go.Proofs.Ytbfjcohocedoaaa.Wi
open Go Go.RowKit Go.Aw Go.Aw.Cart Go.Proofs.Ytbfjcohocedoaaa.Ca
set_option linter.unusedVariables false
set_option linter.unusedSimpArgs false
theorem bLt_irr : ∀ a, bLt a a = false
  | [] => rfl
  | x :: l => by rw [bLt, if_pos rfl]; exact bLt_irr l
theorem bLt_trans : ∀ {a b c : List Nat}, bLt a b = true → bLt b c = true → bLt a c = true
  | [], [], _, h, _ => by cases h
  | [], _ :: _, [], _, h => by cases h
  | [], _ :: _, _ :: _, _, _ => rfl
  | _ :: _, [], _, h, _ => by cases h
  | _ :: _, _ :: _, [], _, h => by cases h
  | x :: a, y :: b, z :: c, h1, h2 => by
    rw [bLt] at h1 h2 ⊢
    by_cases hxy : x = y
    · subst hxy
      rw [if_pos rfl] at h1
      by_cases hxz : x = z
      · subst hxz
        rw [if_pos rfl] at h2 ⊢
        exact bLt_trans h1 h2
      · rw [if_neg hxz] at h2 ⊢
        exact h2
    · rw [if_neg hxy] at h1
      have h1 := of_decide_eq_true h1
      by_cases hyz : y = z
      · subst hyz
        rw [if_neg hxy]
        exact decide_eq_true h1
      · rw [if_neg hyz] at h2
        have h2 := of_decide_eq_true h2
        rw [if_neg (by omega)]
        exact decide_eq_true (by omega)
theorem bLt_tri : ∀ {a b : List Nat}, bLt a b = false → bLt b a = false → a = b
  | [], [], _, _ => rfl
  | [], _ :: _, h, _ => by cases h
  | _ :: _, [], _, h => by cases h
  | x :: a, y :: b, h1, h2 => by
    rw [bLt] at h1 h2
    by_cases hxy : x = y
    · subst hxy
      rw [if_pos rfl] at h1 h2
      rw [bLt_tri h1 h2]
    · rw [if_neg hxy] at h1
      rw [if_neg (fun e => hxy e.symm)] at h2
      have h1 := of_decide_eq_false h1
      have h2 := of_decide_eq_false h2
      omega
theorem bLt_asym {a b : List Nat} (h : bLt a b = true) : bLt b a = false := by
  cases hb : bLt b a with
  | false => rfl
  | true => have := bLt_trans h hb; rw [bLt_irr] at this; cases this
/-- a list that may be -/
structure KOk (l : List Kd) : Prop where
  few : l.length ≤ 2000
  up : l.Pairwise fun a b => bLt a.1 b.1 = true
  key : ∀ e ∈ l, e.1.length ≤ 20
  cart : ∀ e ∈ l, rightF e.2.1 e.2.2 = true
theorem adj_kd {l : List Kd} (h : ∀ i, 0 < i → i < l.length → bLt (l.getD (i - 1) default).1 (l.getD i default).1 = true) : l.Pairwise fun a b => bLt a.1 b.1 = true := by
  have key : ∀ j, j < l.length → ∀ i, i < j → bLt (l.getD i default).1 (l.getD j default).1 = true := by
    intro j
    induction j with
    | zero => intro _ i hi; omega
    | succ j ih =>
      intro hj i hi
      have h1 := h (j + 1) (by omega) hj
      rw [Nat.add_sub_cancel] at h1
      by_cases e : i = j
      · rw [e]; exact h1
      · exact bLt_trans (ih (by omega) i (by omega)) h1
  rw [List.pairwise_iff_getElem]
  intro i j hi hj hij
  have := key j hj i hij
  rwa [getD_at hi, getD_at hj] at this
theorem keys_iff {l : List Kd} : keysF l = true ↔ KOk l := by
  unfold keysF kdOk
  rw [decide_eq_true_eq]
  constructor
  · rintro ⟨h1, h2⟩
    have h3 := fun i hi => h2 i hi
    simp only [Bool.and_eq_true, Bool.or_eq_true, decide_eq_true_eq] at h3
    refine ⟨h1, adj_kd fun i h0 hi => ((h3 i hi).2.1).resolve_left (by omega), fun e he => ?_, fun e he => ?_⟩
    · obtain ⟨i, hi, rfl⟩ := getD_mem he
      exact (h3 i hi).1
    · obtain ⟨i, hi, rfl⟩ := getD_mem he
      exact (h3 i hi).2.2
  · rintro ⟨h1, h2, h3, h4⟩
    refine ⟨h1, fun i hi => ?_⟩
    simp only [Bool.and_eq_true, Bool.or_eq_true, decide_eq_true_eq]
    have hm : l.getD i default ∈ l := by rw [getD_at hi]; exact List.getElem_mem _
    refine ⟨h3 _ hm, ?_, h4 _ hm⟩
    by_cases h0 : i = 0
    · exact .inl h0
    · right
      rw [getD_at hi, getD_at (show i - 1 < l.length by omega)]
      exact List.pairwise_iff_getElem.1 h2 (i - 1) i (by omega) hi (by omega)
/-- a key's cart, and whether there is one -/
def findK : List Kd → List Nat → Crt × Bool
  | [], _ => ((zeroV, []), false)
  | e :: l, k => if e.1 = k then (e.2, true) else findK l k
def setK (l : List Kd) (k : List Nat) (c : Crt) : List Kd := l.map fun e => if e.1 = k then (e.1, c) else e
/-- the place of the first key behind this one -/
def gtI : List Kd → List Nat → Nat
  | [], _ => 0
  | e :: l, k => if bLt k e.1 = true then 0 else gtI l k + 1
def hasK (l : List Kd) (k : List Nat) : Bool := l.any fun e => decide (e.1 = k)
def withK (l : List Kd) (k : List Nat) (c : Crt) : List Kd := if hasK l k = true then setK l k c else l.take (gtI l k) ++ (k, c) :: l.drop (gtI l k)
theorem hasK_iff {l : List Kd} {k : List Nat} : hasK l k = true ↔ ∃ e ∈ l, e.1 = k := by
  unfold hasK
  rw [List.any_eq_true]
  exact ⟨fun ⟨e, h1, h2⟩ => ⟨e, h1, of_decide_eq_true h2⟩, fun ⟨e, h1, h2⟩ => ⟨e, h1, decide_eq_true h2⟩⟩
theorem gtI_le : ∀ (l : List Kd) (k : List Nat), gtI l k ≤ l.length
  | [], _ => Nat.le_refl _
  | e :: l, k => by
    rw [gtI]
    have := gtI_le l k
    split
    · exact Nat.zero_le _
    · rw [List.length_cons]; omega
theorem find_none : ∀ {l : List Kd} {k : List Nat}, (∀ e ∈ l, e.1 ≠ k) → findK l k = ((zeroV, []), false)
  | [], _, _ => rfl
  | e :: l, k, h => by
    rw [findK, if_neg (h e List.mem_cons_self)]
    exact find_none fun x hx => h x (List.mem_cons_of_mem _ hx)
theorem find_app : ∀ {a b : List Kd} {k : List Nat}, (∀ e ∈ a, e.1 ≠ k) → findK (a ++ b) k = findK b k
  | [], _, _, _ => rfl
  | e :: a, b, k, h => by
    rw [List.cons_append, findK, if_neg (h e List.mem_cons_self)]
    exact find_app fun x hx => h x (List.mem_cons_of_mem _ hx)
theorem find_mid : ∀ (a : List Kd) {b : List Kd} {x : Kd} {o : List Nat}, x.1 ≠ o → findK (a ++ x :: b) o = findK (a ++ b) o
  | [], b, x, o, h => by rw [List.nil_append, List.nil_append, findK, if_neg h]
  | e :: a, b, x, o, h => by
    rw [List.cons_append, List.cons_append, findK, findK]
    split
    · rfl
    · exact find_mid a h
theorem find_set : ∀ (l : List Kd) (k : List Nat) (c : Crt), findK (setK l k c) k = if hasK l k = true then (c, true) else ((zeroV, []), false)
  | [], k, c => rfl
  | e :: l, k, c => by
    have ih := find_set l k c
    show findK ((if e.1 = k then (e.1, c) else e) :: setK l k c) k = _
    by_cases h : e.1 = k
    · rw [if_pos h, findK, if_pos h, if_pos (hasK_iff.2 ⟨e, List.mem_cons_self, h⟩)]
    · rw [if_neg h, findK, if_neg h, ih]
      have : hasK (e :: l) k = hasK l k := by unfold hasK; rw [List.any_cons, decide_eq_false h, Bool.false_or]
      rw [this]
theorem find_set_ne : ∀ (l : List Kd) {k o : List Nat} (c : Crt), o ≠ k → findK (setK l k c) o = findK l o
  | [], _, _, _, _ => rfl
  | e :: l, k, o, c, h => by
    have ih := find_set_ne l c h
    show findK ((if e.1 = k then (e.1, c) else e) :: setK l k c) o = _
    by_cases hk : e.1 = k
    · rw [if_pos hk, findK, findK, if_neg (fun q => h (q.symm.trans hk)), if_neg (fun q => h (q.symm.trans hk)), ih]
    · rw [if_neg hk, findK, findK, ih]
theorem with_find {l : List Kd} {k : List Nat} {c : Crt} : findK (withK l k c) k = (c, true) := by
  unfold withK
  by_cases h : hasK l k = true
  · rw [if_pos h, find_set, if_pos h]
  · rw [if_neg h]
    have hno : ∀ e ∈ l, e.1 ≠ k := fun e he q => h (hasK_iff.2 ⟨e, he, q⟩)
    rw [find_app fun e he => hno e (List.mem_of_mem_take he), findK, if_pos rfl]
theorem with_other {l : List Kd} {k o : List Nat} {c : Crt} (h : o ≠ k) : findK (withK l k c) o = findK l o := by
  unfold withK
  by_cases hk : hasK l k = true
  · rw [if_pos hk, find_set_ne l c h]
  · rw [if_neg hk, find_mid _ (fun q => h q.symm), List.take_append_drop]
theorem with_len (l : List Kd) (k : List Nat) (c : Crt) : (withK l k c).length = if hasK l k = true then l.length else l.length + 1 := by
  unfold withK
  split
  · unfold setK; rw [List.length_map]
  · have := gtI_le l k
    rw [List.length_append, List.length_cons, List.length_take, List.length_drop]; omega
theorem gt_take : ∀ {l : List Kd} {k : List Nat}, ∀ e ∈ l.take (gtI l k), bLt k e.1 = false
  | [], k, e, h => by rw [List.take_nil] at h; cases h
  | x :: l, k, e, h => by
    rw [gtI] at h
    by_cases hx : bLt k x.1 = true
    · rw [if_pos hx, List.take_zero] at h; cases h
    · rw [if_neg hx, List.take_succ_cons, List.mem_cons] at h
      rcases h with rfl | h
      · exact Bool.eq_false_iff.2 hx
      · exact gt_take e h
theorem gt_drop : ∀ {l : List Kd} {k : List Nat}, (l.Pairwise fun a b => bLt a.1 b.1 = true) → ∀ e ∈ l.drop (gtI l k), bLt k e.1 = true
  | [], k, _, e, h => by rw [List.drop_nil] at h; cases h
  | x :: l, k, hp, e, h => by
    rw [List.pairwise_cons] at hp
    rw [gtI] at h
    by_cases hx : bLt k x.1 = true
    · rw [if_pos hx, List.drop_zero, List.mem_cons] at h
      rcases h with rfl | h
      · exact hx
      · exact bLt_trans hx (hp.1 e h)
    · rw [if_neg hx, List.drop_succ_cons] at h
      exact gt_drop hp.2 e h
theorem with_ok {l : List Kd} {k : List Nat} {c : Crt} (h : KOk l) (h30 : l.length < 2000) (hk : k.length ≤ 20) (hc : rightF c.1 c.2 = true) : KOk (withK l k c) := by
  have hlen := with_len l k c
  unfold withK at hlen ⊢
  by_cases hh : hasK l k = true
  · rw [if_pos hh, if_pos hh] at hlen
    rw [if_pos hh]
    refine ⟨by omega, ?_, fun e he => ?_, fun e he => ?_⟩
    · unfold setK
      rw [List.pairwise_map]
      refine h.up.imp fun {a b} hab => ?_
      have e1 : ∀ x : Kd, (if x.1 = k then (x.1, c) else x).1 = x.1 := fun x => by split <;> rfl
      rw [e1, e1]; exact hab
    · obtain ⟨x, hx, rfl⟩ := List.mem_map.1 he
      by_cases q : x.1 = k
      · rw [if_pos q]; exact h.key x hx
      · rw [if_neg q]; exact h.key x hx
    · obtain ⟨x, hx, rfl⟩ := List.mem_map.1 he
      by_cases q : x.1 = k
      · rw [if_pos q]; exact hc
      · rw [if_neg q]; exact h.cart x hx
  · rw [if_neg hh, if_neg hh] at hlen
    rw [if_neg hh]
    have hno : ∀ e ∈ l, e.1 ≠ k := fun e he q => hh (hasK_iff.2 ⟨e, he, q⟩)
    have hmem : ∀ e, e ∈ l.take (gtI l k) ++ (k, c) :: l.drop (gtI l k) → e = (k, c) ∨ e ∈ l := fun e he => by
      rcases List.mem_append.1 he with q | q
      · exact .inr (List.mem_of_mem_take q)
      · rcases List.mem_cons.1 q with q | q
        · exact .inl q
        · exact .inr (List.mem_of_mem_drop q)
    refine ⟨by omega, ?_, fun e he => ?_, fun e he => ?_⟩
    · have hu := h.up
      rw [← List.take_append_drop (gtI l k) l, List.pairwise_append] at hu
      rw [List.pairwise_append]
      refine ⟨hu.1, List.pairwise_cons.2 ⟨fun e he => gt_drop h.up e he, hu.2.1⟩, fun a ha b hb => ?_⟩
      rcases List.mem_cons.1 hb with rfl | hb
      · have h1 := gt_take a ha
        cases hq : bLt a.1 k with
        | true => rfl
        | false => exact absurd (bLt_tri hq h1) (hno a (List.mem_of_mem_take ha))
      · exact hu.2.2 a ha b hb
    · rcases hmem e he with rfl | q
      · exact hk
      · exact h.key e q
    · rcases hmem e he with rfl | q
      · exact hc
      · exact h.cart e q
theorem with_len_le (l : List Kd) (k : List Nat) (c : Crt) : l.length ≤ (withK l k c).length ∧ (withK l k c).length ≤ l.length + 1 := by
  rw [with_len]; split <;> omega
end Go.Proofs.Ytbfjcohocedoaaa.Wi
namespace Go.Aw
open Go Go.RowKit
theorem u8_lt {x y : Nat} (hx : x < 256) (hy : y < 256) : (UInt8.ofNat x < UInt8.ofNat y) ↔ x < y := by
  rw [UInt8.lt_iff_toNat_lt, UInt8.toNat_ofNat', UInt8.toNat_ofNat', Nat.mod_eq_of_lt (by omega), Nat.mod_eq_of_lt (by omega)]
theorem u8_eq {x y : Nat} (hx : x < 256) (hy : y < 256) : (UInt8.ofNat x = UInt8.ofNat y) ↔ x = y := by
  rw [← UInt8.toNat_inj, UInt8.toNat_ofNat', UInt8.toNat_ofNat', Nat.mod_eq_of_lt (by omega), Nat.mod_eq_of_lt (by omega)]
end Go.Aw
namespace Go.Proofs.Ytbfjcohocedoaaa.Wi
open Go Go.RowKit Go.Aw Go.Aw.Cart Go.Proofs.Ytbfjcohocedoaaa.Ca
set_option linter.unusedVariables false
set_option linter.unusedSimpArgs false
set_option maxRecDepth 8000
set_option maxHeartbeats 4000000
theorem bless : ∀ {a b : List Nat}, okB a → okB b → Op.bytesLess (a.map UInt8.ofNat) (b.map UInt8.ofNat) = bLt a b
  | [], [], _, _ => rfl
  | _ :: _, [], _, _ => rfl
  | [], _ :: _, _, _ => rfl
  | x :: a, y :: b, ha, hb => by
    have hx := ha x List.mem_cons_self
    have hy := hb y List.mem_cons_self
    have ih := bless (a := a) (b := b) (fun c hc => ha c (List.mem_cons_of_mem _ hc)) (fun c hc => hb c (List.mem_cons_of_mem _ hc))
    rw [List.map_cons, List.map_cons, Op.bytesLess, ih, bLt]
    by_cases e : x = y
    · subst e
      rw [if_pos rfl]
      have h1 : decide (UInt8.ofNat x < UInt8.ofNat x) = false := decide_eq_false (by rw [u8_lt hx hx]; omega)
      simp [h1]
    · rw [if_neg e]
      have h1 : (UInt8.ofNat x == UInt8.ofNat y) = false := by
        rw [Bool.eq_false_iff]
        intro q
        exact e ((u8_eq hx hy).1 (by simpa using q))
      have h2 : decide (UInt8.ofNat x < UInt8.ofNat y) = decide (x < y) := decide_eq_decide.2 (u8_lt hx hy)
      rw [h1, h2]; simp
theorem str_list (a : List Nat) : (strOf a).toList = a.map UInt8.ofNat := by
  rw [ByteArray.toList_eq]; simp [strOf]
theorem str_eqL {a b : List Nat} (ha : okB a) (hb : okB b) : ((strOf a).toList == (strOf b).toList) = decide (a = b) := by
  rw [ByteArray.toList_eq, ByteArray.toList_eq]; exact eq_str ha hb
/-- texts compared: not below -/
theorem lop_sge {C : Ctx} {o : Oper} {σ : St} {t t' : TypeId} {x y : Operand} {sz by_ : Nat} {a b : List Nat} (ho : o.op = .binOp .geq t x y t') (hT : TI C.P t .string sz by_) (hx : σ.look x = .p (.v (.string (strOf a)))) (hy : σ.look y = .p (.v (.string (strOf b)))) (ha : okB a) (hb : okB b) (hd : dOk C o.dst = true) :
    LOp C o σ ⟨.p (.v (.bool (!bLt a b))), []⟩ (fun _ => false) :=
  lop_bin ho hx hy (fun w => by
    obtain ⟨d, hdd, hk⟩ := hT.undd
    have : d = .string := by cases d <;> simp [TK.of] at hk; rfl
    subst this
    have e : (eqGuard .geq t x y (.string (strOf a)) (.string (strOf b))).run C.P w = .ok () w := by unfold eqGuard; simp [pure]
    simp only [Sem.run_bind, e, Result.andThen_ok]
    rw [binOp_string_geq, str_list, str_list, bless ha hb]; rfl) rfl hd
/-- texts compared: above -/
theorem lop_sgt {C : Ctx} {o : Oper} {σ : St} {t t' : TypeId} {x y : Operand} {sz by_ : Nat} {a b : List Nat} (ho : o.op = .binOp .gtr t x y t') (hT : TI C.P t .string sz by_) (hx : σ.look x = .p (.v (.string (strOf a)))) (hy : σ.look y = .p (.v (.string (strOf b)))) (ha : okB a) (hb : okB b) (hd : dOk C o.dst = true) :
    LOp C o σ ⟨.p (.v (.bool (bLt b a))), []⟩ (fun _ => false) :=
  lop_bin ho hx hy (fun w => by
    obtain ⟨d, hdd, hk⟩ := hT.undd
    have : d = .string := by cases d <;> simp [TK.of] at hk; rfl
    subst this
    have e : (eqGuard .gtr t x y (.string (strOf a)) (.string (strOf b))).run C.P w = .ok () w := by unfold eqGuard; simp [pure]
    have e3 : (!(bLt a b || decide (a = b))) = bLt b a := by
      cases h1 : bLt a b with
      | true => rw [bLt_asym h1]; rfl
      | false =>
        by_cases h2 : a = b
        · subst h2; rw [bLt_irr, decide_eq_true rfl]; rfl
        · rw [decide_eq_false h2]
          cases h3 : bLt b a with
          | true => rfl
          | false => exact absurd (bLt_tri h1 h3) h2
    simp only [Sem.run_bind, e, Result.andThen_ok]
    rw [binOp_string_gtr, str_eqL ha hb, str_list, str_list, bless ha hb, e3]; rfl) rfl hd
theorem map_of {row : List PVal} {ds : List AC} (h : All2 (fun (p : PVal) (c : AC) => AC.p p = c) row ds) : row.map AC.p = ds := by
  refine List.ext_getElem (by simp [h.1]) fun i h1 h2 => ?_
  have h3 : i < row.length := by simpa using h1
  have := h.2 i row[i] ds[i] (by simp [h3]) (by simp [h2])
  simpa using this
theorem lop_ld_atn {C : Ctx} {o : Oper} {σ : St} {T : TypeId} {x : Operand} {k : TK} {sz by_ : Nat} {row : List PVal} {ds : List AC} (ho : o.op = .load T x) (hT : TI C.P T k sz by_) (hx : σ.look x = .p (.at_ row)) (hk : k.agg = true) (h0 : 0 < sz) (hs : row.length = sz) (hds : All2 (fun (p : PVal) (c : AC) => AC.p p = c) row ds) (hd : dOk C o.dst = true) : LOp C o σ ⟨.a ds, []⟩ (fun _ => false) := by
  subst hs
  have := lop_load_at (o := o) ho hx hk h0 (by simp) hd
  rw [List.take_length, map_of hds] at this
  exact this
/-- all cells of a variable but the first one -/
theorem lop_ld_t9 {C : Ctx} {o : Oper} {σ : St} {T : TypeId} {x : Operand} {k : TK} {sz by_ : Nat} {ob g n : Nat} {ty : TypeId} {c0 c1 c2 c3 c4 c5 c6 c7 c8 c9 : AC} (ho : o.op = .load T x) (hT : TI C.P T k sz by_) (hx : σ.look x = .o (.ptr ob g 1)) (hm : σ.mem ob = (n, some (.box ty [c0, c1, c2, c3, c4, c5, c6, c7, c8, c9]))) (hn : n = g + 1)
    (hk : k.agg = true) (hs : sz = 9) (hd : dOk C o.dst = true) : LOp C o σ ⟨.a [c1, c2, c3, c4, c5, c6, c7, c8, c9], []⟩ (fun y => y == ob) := by
  subst hs; exact lop_load_box (o := o) ho hx hm hn hk (by simp) hd
/-- a key's cart, as a row -/
abbrev kR (k : Kd) : List PVal := [.v (.string (strOf k.1)), .k .u64 (k.2.1.getD 0 default), .k .u64 (k.2.1.getD 1 default), .k .u64 (k.2.1.getD 2 default), .k .u64 (k.2.1.getD 3 default), .k .u64 (k.2.1.getD 4 default), .k .u64 (k.2.1.getD 5 default), .k .u64 (k.2.1.getD 6 default), .k .u64 (k.2.1.getD 7 default), .sl 4 (k.2.2.map eR) false]
abbrev kL (k : Kd) : List AC := [.p (.v (.string (strOf k.1))), .p (.k .u64 (k.2.1.getD 0 default)), .p (.k .u64 (k.2.1.getD 1 default)), .p (.k .u64 (k.2.1.getD 2 default)), .p (.k .u64 (k.2.1.getD 3 default)), .p (.k .u64 (k.2.1.getD 4 default)), .p (.k .u64 (k.2.1.getD 5 default)), .p (.k .u64 (k.2.1.getD 6 default)), .p (.k .u64 (k.2.1.getD 7 default)), .p (.sl 4 (k.2.2.map eR) false)]
/-- what Go can hold -/
structure KdIn (k : Kd) : Prop where
  key : okB k.1
  len : k.1.length ≤ 9223372036854775807
  vec : vecOk k.2.1
  few : k.2.2.length ≤ 1000000000
namespace W9
theorem lopC {C : Ctx} {o : Oper} {σ : St} {e : Eff} {ro : Nat → Bool} (h : LOp C o σ e ro := by
    first
      | (apply lop_sge; (focus rfl); (focus exact inferInstance); (focus rfl); (focus rfl); (focus assumption); (focus assumption); (focus rfl))
      | (apply lop_sgt; (focus rfl); (focus exact inferInstance); (focus rfl); (focus rfl); (focus assumption); (focus assumption); (focus rfl))
      | (apply lop_len_sb; (focus rfl); (focus exact inferInstance); (focus rfl); (focus rfl))
      | (apply gLoad; (focus rfl); apply lop_ld_t9; (focus rfl); (focus exact inferInstance); (focus rfl); (focus rfl); (focus rfl); (focus rfl); (focus rfl); (focus rfl))
      | (apply gLoad; (focus rfl); apply lop_ld_atn; (focus rfl); (focus exact inferInstance); (focus rfl); (focus rfl); (focus decide); (focus rfl); (focus repeat' (first | exact All2.nil | (apply All2.cons; (focus rfl)))); (focus rfl))
      | exact W8.lopC
      | fail) : LOp C o σ e ro := h
section steps
variable {C : Ctx} {ops : Array Oper} {o : Oper} {rest : List Oper} {K : St → Prop} {σ : St} {e : Eff} {ro : Nat → Bool} {W : List (Nat × Nat)} {i : Nat}
theorem rnC {d : Nat} (hk : RunN C ops rest K (e.app (some d) σ)) (hg : Guard ops σ o true := by first | exact gd_n rfl rfl | exact gd_t rfl rfl rfl rfl | exact gd_t rfl rfl rfl (by assumption)) (hd : o.dst = some d := by rfl) (h : LOp C o σ e ro := by exact lopC) : RunN C ops (o :: rest) K σ := rn_any hg hd h hk
theorem rkC {d : Nat} (hk : RunK C ops W (i + 1) rest K (e.app (some d) σ)) (hg : Guard ops σ o true := by first | exact gd_n rfl rfl | exact gd_t rfl rfl rfl rfl | exact gd_t rfl rfl rfl (by assumption)) (hd' : o.dst = some d := by rfl) (hd : dOk C o.dst = true := by rfl) (h : LOp C o σ e ro := by exact lopC)
    (hro : ∀ x, ro x = true → okObj ops W i x = true := by first | exact fun _ => ro_none | exact ro_one rfl | exact ro_k1 rfl | exact ro_one (by kernel_rfl) | exact ro_k1 (by kernel_rfl) | exact ro_kIn (by decide)) (hob : ∀ p ∈ e.obj, (i, p.1) ∈ W := by first | exact ob_none | exact ob_one (by decide) | decide) : RunK C ops W i (o :: rest) K σ := rk_wr hg hd' hd h hro hob hk
end steps
end W9
open W9
theorem read_w (b : List Nat) (ex : Bool) (hb : okB b) (hl : b.length ≤ 1000000000) : PCall Try.prog 21 [.p (.sl 1 (b.map bR) ex)] (.tup [.agg (cL (readC b).1.1 (readC b).1.2 false), .one (.p (.i (readC b).2))]) := by
  refine pcall_of Try.func21 rfl (fun w0 F S0 M0 => ?_)
  have o1 : rdOk (b, 0) := ⟨hb, hl⟩
  have hc8 := cart_len8 (b, 0)
  unfold readC
  haveI : ∀ p g m : Nat, OC Try.prog 39 [.o (.ptr p g 0)] [(p, (m, some (rdM (b, 0))))] [] (m = g + 1) (cV (cartS (b, 0)).1.1 (cartS (b, 0)).1.2 false) [(p, (m, some (rdM (cartS (b, 0)).2)))] := fun p g m => ⟨fun h => by obtain rfl := h; exact (ptake_o g (b, 0) o1).one p⟩
  generalize cartS (b, 0) = q at hc8 ⊢ this
  obtain ⟨⟨V, L⟩, r⟩ := q
  dsimp only at hc8 ⊢ this
  by_cases he : endS r = 0
  · have d1 : decide (endS r ≠ 0) = false := decide_eq_false fun h => h he
    rw [if_neg (fun h => h he)]
    as_aux_lemma =>
      repeat' (first
          | refine rnC ?_
          | refine rnSB ?_
          | refine rnG ?_
          | refine rnU ?_
          | ((fail_if_success (refine rnKn ?_)); refine rnP ?_ ?_ <;> (intro hq; try (have hq' := hq; simp only [hqs] at hq')))
          | refine rkC ?_
          | refine rkSB ?_
          | refine rkF ?_
          | refine rkU ?_
          | ((fail_if_success (refine rkKn ?_)); refine rkP ?_ ?_ <;> (intro hq; try (have hq' := hq; simp only [hqs] at hq')))
          | refine stp ?_
          | refine ifT ?_
          | refine ifF ?_
          | (refine ifQ ?_ ?_ <;> (try (intro hn)))
          | (refine ifB ?_ ?_ <;> (intro hq; try (have hq' := hq; simp only [hqs] at hq'))))
      exact rc2 rfl rfl rfl rfl rfl rfl finL_p rfl finS_p rfl
  · have d1 : decide (endS r ≠ 0) = true := decide_eq_true he
    rw [if_pos he]
    as_aux_lemma =>
      repeat' (first
          | refine rnC ?_
          | refine rnSB ?_
          | refine rnG ?_
          | refine rnU ?_
          | ((fail_if_success (refine rnKn ?_)); refine rnP ?_ ?_ <;> (intro hq; try (have hq' := hq; simp only [hqs] at hq')))
          | refine rkC ?_
          | refine rkSB ?_
          | refine rkF ?_
          | refine rkU ?_
          | ((fail_if_success (refine rkKn ?_)); refine rkP ?_ ?_ <;> (intro hq; try (have hq' := hq; simp only [hqs] at hq')))
          | refine stp ?_
          | refine ifT ?_
          | refine ifF ?_
          | (refine ifQ ?_ ?_ <;> (try (intro hn)))
          | (refine ifB ?_ ?_ <;> (intro hq; try (have hq' := hq; simp only [hqs] at hq'))))
      exact rc2 rfl rfl rfl rfl rfl rfl fin9 rfl finS_p rfl
end Go.Proofs.Ytbfjcohocedoaaa.Wi
namespace Go.Proofs.Ytbfjcohocedoaaa.Wi
open Go Go.RowKit Go.Aw Go.Aw.Cart Go.Proofs.Ytbfjcohocedoaaa.Ca
set_option linter.unusedVariables false
set_option linter.unusedSimpArgs false
set_option maxRecDepth 8000
set_option maxHeartbeats 4000000
open W9
/-- what Go can hold -/
structure KdI (k : Kd) : Prop where
  key : okB k.1
  len : k.1.length ≤ 9223372036854775807
  vec : vecOk k.2.1
  few : k.2.2.length ≤ 9223372036854775807
theorem keysF_no {l : List Kd} {i : Nat} (hi : i < l.length) (h : kdOk l i = false) : keysF l = false := decide_eq_false fun q => by
  have := q.2 i hi
  rw [h] at this; cases this
theorem pright_w (l : List Kd) (ex : Bool) (hl : l.length ≤ 1000000000) (hin : ∀ k ∈ l, KdI k) (hf : ∀ k ∈ l, k.2.2.length ≤ 1000000000) : PCall Try.prog 9 [.p (.sl 10 (l.map kR) ex)] (.p (.b (keysF l))) := by
  refine pcall_of Try.func9 rfl (fun w0 F S0 M0 => ?_)
  repeat' (first
      | refine rnC ?_
      | refine rnSB ?_
      | refine rnG ?_
      | refine rnU ?_
      | ((fail_if_success (refine rnKn ?_)); refine rnP ?_ ?_ <;> (intro hq; try (have hq' := hq; simp only [hqs] at hq')))
      | refine rkC ?_
      | refine rkSB ?_
      | refine rkF ?_
      | refine rkU ?_
      | ((fail_if_success (refine rkKn ?_)); refine rkP ?_ ?_ <;> (intro hq; try (have hq' := hq; simp only [hqs] at hq')))
      | refine stp ?_
      | refine aws_draws [] mixed (by kernel_rfl) ?_
      | refine ifT ?_
      | refine ifF ?_
      | (refine ifQ ?_ ?_ <;> (try (intro hn)))
      | (refine ifB ?_ ?_ <;> (intro hq; try (have hq' := hq; simp only [hqs] at hq'))))
  refine aws_loopS [2, 3, 4, 7, 8, 9, 10, 11, 12, 13, 14, 15, 16, 17, 18, 19, 20, 21, 22, 23, 24, 25, 26, 27, 28, 29, 30, 31, 32, 33, 34, 35, 36, 37] [4] (fun (x : Nat × Option MO) => [(7, .p (.i x.1))]) (fun x => [(4, (x.1, x.2))]) (fun x => x.1 ≤ l.length ∧ ∀ j, j < x.1 → kdOk l j = true) (fun x => l.length - x.1) (0, none) ⟨Nat.zero_le _, fun j hj => absurd hj (Nat.not_lt_zero _)⟩ (by exact knA) (by exact knA) ?_
  rintro ⟨i, c4⟩ β γ ⟨hi, hx⟩
  dsimp only at hi hx ⊢
  by_cases hil : i < l.length
  · have d1 : decide ((i : Int) < (l.length : Int)) = true := decide_eq_true (by omega)
    have ei : (i : Int).toNat = i := Int.toNat_natCast i
    have hm : l.getD (i : Int).toNat default ∈ l := by rw [ei, getD_at hil]; exact List.getElem_mem _
    have hk := hin _ hm
    have okx := hk.key
    have hfx := hf _ hm
    have h8 := hk.vec.1
    have hok : kdOk l i = (decide ((l.getD (i : Int).toNat default).1.length ≤ 20) && ((decide (i = 0) || bLt (l.getD (i - 1) default).1 (l.getD (i : Int).toNat default).1) && rightF (l.getD (i : Int).toNat default).2.1 (l.getD (i : Int).toNat default).2.2)) := by unfold kdOk; rw [ei]
    have hnext : kdOk l i = true → ∀ j, j < i + 1 → kdOk l j = true := fun h j hj => by
      by_cases e : j = i
      · rw [e]; exact h
      · exact hx j (by omega)
    haveI hR : PC Try.prog 22 [cV (l.getD (i : Int).toNat default).2.1 (l.getD (i : Int).toNat default).2.2 false] True (.p (.b (rightF (l.getD (i : Int).toNat default).2.1 (l.getD (i : Int).toNat default).2.2))) := ⟨fun _ => right_w _ _ _ h8 hfx⟩
    generalize rightF (l.getD (i : Int).toNat default).2.1 (l.getD (i : Int).toNat default).2.2 = R at hR hok
    by_cases h1 : (l.getD (i : Int).toNat default).1.length ≤ 20
    · have c1 : decide (20 < ((l.getD (i : Int).toNat default).1.length : Int)) = false := decide_eq_false (by omega)
      rw [decide_eq_true h1, Bool.true_and] at hok
      by_cases h0 : i = 0
      · have c2 : decide (0 < (i : Int)) = false := decide_eq_false (by omega)
        rw [decide_eq_true h0, Bool.true_or, Bool.true_and] at hok
        cases R with
        | true =>
          have c4 : (!true) = false := rfl
          clear hin hf hx hm hk
          as_aux_lemma =>
            repeat' (first
                | refine rnC ?_
                | refine rnSB ?_
                | refine rnG ?_
                | refine rnU ?_
                | ((fail_if_success (refine rnKn ?_)); refine rnP ?_ ?_ <;> (intro hq; try (have hq' := hq; simp only [hqs] at hq')))
                | refine rkC ?_
                | refine rkSB ?_
                | refine rkF ?_
                | refine rkU ?_
                | ((fail_if_success (refine rkKn ?_)); refine rkP ?_ ?_ <;> (intro hq; try (have hq' := hq; simp only [hqs] at hq')))
                | refine stp ?_
                | refine aws_draws [] mixed (by kernel_rfl) ?_
                | refine ifT ?_
                | refine ifF ?_
                | (refine ifQ ?_ ?_ <;> (try (intro hn)))
                | (refine ifB ?_ ?_ <;> (intro hq; try (have hq' := hq; simp only [hqs] at hq'))))
            exact ⟨(i + 1, _), _, by dsimp only; omega, ⟨by dsimp only; omega, hnext hok⟩, .refl, by exact frA⟩
        | false =>
          have c4 : (!false) = true := rfl
          rw [keysF_no hil hok]
          clear hin hf hx hm hk hnext
          as_aux_lemma =>
            repeat' (first
                | refine rnC ?_
                | refine rnSB ?_
                | refine rnG ?_
                | refine rnU ?_
                | ((fail_if_success (refine rnKn ?_)); refine rnP ?_ ?_ <;> (intro hq; try (have hq' := hq; simp only [hqs] at hq')))
                | refine rkC ?_
                | refine rkSB ?_
                | refine rkF ?_
                | refine rkU ?_
                | ((fail_if_success (refine rkKn ?_)); refine rkP ?_ ?_ <;> (intro hq; try (have hq' := hq; simp only [hqs] at hq')))
                | refine stp ?_
                | refine aws_draws [] mixed (by kernel_rfl) ?_
                | refine ifT ?_
                | refine ifF ?_
                | (refine ifQ ?_ ?_ <;> (try (intro hn)))
                | (refine ifB ?_ ?_ <;> (intro hq; try (have hq' := hq; simp only [hqs] at hq'))))
            exact rt1 rfl rfl finS_p rfl
      · have c2 : decide (0 < (i : Int)) = true := decide_eq_true (by omega)
        have ej : ((i : Int) - 1).toNat = i - 1 := by omega
        have hm2 : l.getD ((i : Int) - 1).toNat default ∈ l := by rw [ej, getD_at (by omega)]; exact List.getElem_mem _
        have oky := (hin _ hm2).key
        rw [decide_eq_false h0, Bool.false_or, ← ej] at hok
        generalize hB : bLt (l.getD ((i : Int) - 1).toNat default).1 (l.getD (i : Int).toNat default).1 = B at hok
        cases B with
        | true =>
          have c3 : (!bLt (l.getD ((i : Int) - 1).toNat default).1 (l.getD (i : Int).toNat default).1) = false := by rw [hB]; rfl
          rw [Bool.true_and] at hok
          cases R with
          | true =>
            have c4 : (!true) = false := rfl
            clear hin hf hx hm hk hm2 hB
            as_aux_lemma =>
              repeat' (first
                  | refine rnC ?_
                  | refine rnSB ?_
                  | refine rnG ?_
                  | refine rnU ?_
                  | ((fail_if_success (refine rnKn ?_)); refine rnP ?_ ?_ <;> (intro hq; try (have hq' := hq; simp only [hqs] at hq')))
                  | refine rkC ?_
                  | refine rkSB ?_
                  | refine rkF ?_
                  | refine rkU ?_
                  | ((fail_if_success (refine rkKn ?_)); refine rkP ?_ ?_ <;> (intro hq; try (have hq' := hq; simp only [hqs] at hq')))
                  | refine stp ?_
                  | refine aws_draws [] mixed (by kernel_rfl) ?_
                  | refine ifT ?_
                  | refine ifF ?_
                  | (refine ifQ ?_ ?_ <;> (try (intro hn)))
                  | (refine ifB ?_ ?_ <;> (intro hq; try (have hq' := hq; simp only [hqs] at hq'))))
              exact ⟨(i + 1, _), _, by dsimp only; omega, ⟨by dsimp only; omega, hnext hok⟩, .refl, by exact frA⟩
          | false =>
            have c4 : (!false) = true := rfl
            rw [keysF_no hil hok]
            clear hin hf hx hm hk hm2 hB hnext
            as_aux_lemma =>
              repeat' (first
                  | refine rnC ?_
                  | refine rnSB ?_
                  | refine rnG ?_
                  | refine rnU ?_
                  | ((fail_if_success (refine rnKn ?_)); refine rnP ?_ ?_ <;> (intro hq; try (have hq' := hq; simp only [hqs] at hq')))
                  | refine rkC ?_
                  | refine rkSB ?_
                  | refine rkF ?_
                  | refine rkU ?_
                  | ((fail_if_success (refine rkKn ?_)); refine rkP ?_ ?_ <;> (intro hq; try (have hq' := hq; simp only [hqs] at hq')))
                  | refine stp ?_
                  | refine aws_draws [] mixed (by kernel_rfl) ?_
                  | refine ifT ?_
                  | refine ifF ?_
                  | (refine ifQ ?_ ?_ <;> (try (intro hn)))
                  | (refine ifB ?_ ?_ <;> (intro hq; try (have hq' := hq; simp only [hqs] at hq'))))
              exact rt1 rfl rfl finS_p rfl
        | false =>
          have c3 : (!bLt (l.getD ((i : Int) - 1).toNat default).1 (l.getD (i : Int).toNat default).1) = true := by rw [hB]; rfl
          rw [Bool.false_and] at hok
          rw [keysF_no hil hok]
          clear hin hf hx hm hk hm2 hB hnext
          as_aux_lemma =>
            repeat' (first
                | refine rnC ?_
                | refine rnSB ?_
                | refine rnG ?_
                | refine rnU ?_
                | ((fail_if_success (refine rnKn ?_)); refine rnP ?_ ?_ <;> (intro hq; try (have hq' := hq; simp only [hqs] at hq')))
                | refine rkC ?_
                | refine rkSB ?_
                | refine rkF ?_
                | refine rkU ?_
                | ((fail_if_success (refine rkKn ?_)); refine rkP ?_ ?_ <;> (intro hq; try (have hq' := hq; simp only [hqs] at hq')))
                | refine stp ?_
                | refine aws_draws [] mixed (by kernel_rfl) ?_
                | refine ifT ?_
                | refine ifF ?_
                | (refine ifQ ?_ ?_ <;> (try (intro hn)))
                | (refine ifB ?_ ?_ <;> (intro hq; try (have hq' := hq; simp only [hqs] at hq'))))
            exact rt1 rfl rfl finS_p rfl
    · have c1 : decide (20 < ((l.getD (i : Int).toNat default).1.length : Int)) = true := decide_eq_true (by omega)
      rw [decide_eq_false h1, Bool.false_and] at hok
      rw [keysF_no hil hok]
      clear hin hf hx hm hk hnext
      as_aux_lemma =>
        repeat' (first
            | refine rnC ?_
            | refine rnSB ?_
            | refine rnG ?_
            | refine rnU ?_
            | ((fail_if_success (refine rnKn ?_)); refine rnP ?_ ?_ <;> (intro hq; try (have hq' := hq; simp only [hqs] at hq')))
            | refine rkC ?_
            | refine rkSB ?_
            | refine rkF ?_
            | refine rkU ?_
            | ((fail_if_success (refine rkKn ?_)); refine rkP ?_ ?_ <;> (intro hq; try (have hq' := hq; simp only [hqs] at hq')))
            | refine stp ?_
            | refine aws_draws [] mixed (by kernel_rfl) ?_
            | refine ifT ?_
            | refine ifF ?_
            | (refine ifQ ?_ ?_ <;> (try (intro hn)))
            | (refine ifB ?_ ?_ <;> (intro hq; try (have hq' := hq; simp only [hqs] at hq'))))
        exact rt1 rfl rfl finS_p rfl
  · have d1 : decide ((i : Int) < (l.length : Int)) = false := decide_eq_false (by omega)
    have e : keysF l = decide ((l.length : Int) ≤ 2000) := decide_eq_decide.2 ⟨fun q => by omega, fun q => ⟨by omega, fun j hj => hx j (by omega)⟩⟩
    rw [e]
    as_aux_lemma =>
      repeat' (first
          | refine rnC ?_
          | refine rnSB ?_
          | refine rnG ?_
          | refine rnU ?_
          | ((fail_if_success (refine rnKn ?_)); refine rnP ?_ ?_ <;> (intro hq; try (have hq' := hq; simp only [hqs] at hq')))
          | refine rkC ?_
          | refine rkSB ?_
          | refine rkF ?_
          | refine rkU ?_
          | ((fail_if_success (refine rkKn ?_)); refine rkP ?_ ?_ <;> (intro hq; try (have hq' := hq; simp only [hqs] at hq')))
          | refine stp ?_
          | refine aws_draws [] mixed (by kernel_rfl) ?_
          | refine ifT ?_
          | refine ifF ?_
          | (refine ifQ ?_ ?_ <;> (try (intro hn)))
          | (refine ifB ?_ ?_ <;> (intro hq; try (have hq' := hq; simp only [hqs] at hq'))))
      exact rt1 rfl rfl finS_p rfl
/-- is a list too much for a statement? -/
def greatL (l : List Kd) : Bool := decide (∃ i, i < l.length ∧ (30 < l.length ∨ 100 < (l.getD i default).1.length ∨ 60 < (l.getD i default).2.2.length))
theorem greatL_no {l : List Kd} (h : greatL l = false) : l.length ≤ 30 ∧ ∀ k ∈ l, k.1.length ≤ 100 ∧ k.2.2.length ≤ 60 := by
  have h' := of_decide_eq_false h
  constructor
  · rcases Nat.lt_or_ge 30 l.length with q | q
    · exact absurd ⟨0, by omega, .inl q⟩ h'
    · exact q
  · intro k hk
    obtain ⟨i, hi, rfl⟩ := getD_mem hk
    constructor
    · rcases Nat.lt_or_ge 100 (l.getD i default).1.length with q | q
      · exact absurd ⟨i, hi, .inr (.inl q)⟩ h'
      · exact q
    · rcases Nat.lt_or_ge 60 (l.getD i default).2.2.length with q | q
      · exact absurd ⟨i, hi, .inr (.inr q)⟩ h'
      · exact q
theorem pgreat_w (l : List Kd) (ex : Bool) (hl : l.length ≤ 9223372036854775807) : PCall Try.prog 8 [.p (.sl 10 (l.map kR) ex)] (.p (.b (greatL l))) := by
  refine pcall_of Try.func8 rfl (fun w0 F S0 M0 => ?_)
  repeat' (first
      | refine rnC ?_
      | refine rnSB ?_
      | refine rnG ?_
      | refine rnU ?_
      | ((fail_if_success (refine rnKn ?_)); refine rnP ?_ ?_ <;> (intro hq; try (have hq' := hq; simp only [hqs] at hq')))
      | refine rkC ?_
      | refine rkSB ?_
      | refine rkF ?_
      | refine rkU ?_
      | ((fail_if_success (refine rkKn ?_)); refine rkP ?_ ?_ <;> (intro hq; try (have hq' := hq; simp only [hqs] at hq')))
      | refine stp ?_
      | refine aws_draws [] mixed (by kernel_rfl) ?_
      | refine ifT ?_
      | refine ifF ?_
      | (refine ifQ ?_ ?_ <;> (try (intro hn)))
      | (refine ifB ?_ ?_ <;> (intro hq; try (have hq' := hq; simp only [hqs] at hq'))))
  refine aws_loopS [2, 3, 4, 5, 6, 7, 8, 9, 10, 11, 12, 13, 14, 15, 16, 17, 18, 19, 20, 21, 22, 23, 24, 25, 26, 27, 28, 29] [] (fun (i : Nat) => [(3, .p (.i i))]) (fun _ => []) (fun i => i ≤ l.length ∧ ∀ j, j < i → ¬ (30 < l.length ∨ 100 < (l.getD j default).1.length ∨ 60 < (l.getD j default).2.2.length)) (fun i => l.length - i) 0 ⟨Nat.zero_le _, fun j hj => absurd hj (Nat.not_lt_zero _)⟩ (by exact knA) (by exact knA) ?_
  rintro i β γ ⟨hi, hx⟩
  by_cases hil : i < l.length
  · have d1 : decide ((i : Int) < (l.length : Int)) = true := decide_eq_true (by omega)
    have ei : (i : Int).toNat = i := Int.toNat_natCast i
    have yes : (30 < l.length ∨ 100 < (l.getD i default).1.length ∨ 60 < (l.getD i default).2.2.length) → greatL l = true := fun q => decide_eq_true ⟨i, hil, q⟩
    have yes : (30 < l.length ∨ 100 < (l.getD (i : Int).toNat default).1.length ∨ 60 < (l.getD (i : Int).toNat default).2.2.length) → greatL l = true := by rw [ei]; exact yes
    by_cases h1 : 30 < l.length
    · have c1 : decide (30 < (l.length : Int)) = true := decide_eq_true (by omega)
      rw [yes (.inl h1)]
      as_aux_lemma =>
        repeat' (first
            | refine rnC ?_
            | refine rnSB ?_
            | refine rnG ?_
            | refine rnU ?_
            | ((fail_if_success (refine rnKn ?_)); refine rnP ?_ ?_ <;> (intro hq; try (have hq' := hq; simp only [hqs] at hq')))
            | refine rkC ?_
            | refine rkSB ?_
            | refine rkF ?_
            | refine rkU ?_
            | ((fail_if_success (refine rkKn ?_)); refine rkP ?_ ?_ <;> (intro hq; try (have hq' := hq; simp only [hqs] at hq')))
            | refine stp ?_
            | refine aws_draws [] mixed (by kernel_rfl) ?_
            | refine ifT ?_
            | refine ifF ?_
            | (refine ifQ ?_ ?_ <;> (try (intro hn)))
            | (refine ifB ?_ ?_ <;> (intro hq; try (have hq' := hq; simp only [hqs] at hq'))))
        exact rt1 rfl rfl finS_p rfl
    · have c1 : decide (30 < (l.length : Int)) = false := decide_eq_false (by omega)
      by_cases h2 : 100 < (l.getD (i : Int).toNat default).1.length
      · have c2 : decide (100 < ((l.getD (i : Int).toNat default).1.length : Int)) = true := decide_eq_true (by omega)
        rw [yes (.inr (.inl h2))]
        as_aux_lemma =>
          repeat' (first
              | refine rnC ?_
              | refine rnSB ?_
              | refine rnG ?_
              | refine rnU ?_
              | ((fail_if_success (refine rnKn ?_)); refine rnP ?_ ?_ <;> (intro hq; try (have hq' := hq; simp only [hqs] at hq')))
              | refine rkC ?_
              | refine rkSB ?_
              | refine rkF ?_
              | refine rkU ?_
              | ((fail_if_success (refine rkKn ?_)); refine rkP ?_ ?_ <;> (intro hq; try (have hq' := hq; simp only [hqs] at hq')))
              | refine stp ?_
              | refine aws_draws [] mixed (by kernel_rfl) ?_
              | refine ifT ?_
              | refine ifF ?_
              | (refine ifQ ?_ ?_ <;> (try (intro hn)))
              | (refine ifB ?_ ?_ <;> (intro hq; try (have hq' := hq; simp only [hqs] at hq'))))
          exact rt1 rfl rfl finS_p rfl
      · have c2 : decide (100 < ((l.getD (i : Int).toNat default).1.length : Int)) = false := decide_eq_false (by omega)
        by_cases h3 : 60 < (l.getD (i : Int).toNat default).2.2.length
        · have c3 : decide (60 < ((l.getD (i : Int).toNat default).2.2.length : Int)) = true := decide_eq_true (by omega)
          rw [yes (.inr (.inr h3))]
          as_aux_lemma =>
            repeat' (first
                | refine rnC ?_
                | refine rnSB ?_
                | refine rnG ?_
                | refine rnU ?_
                | ((fail_if_success (refine rnKn ?_)); refine rnP ?_ ?_ <;> (intro hq; try (have hq' := hq; simp only [hqs] at hq')))
                | refine rkC ?_
                | refine rkSB ?_
                | refine rkF ?_
                | refine rkU ?_
                | ((fail_if_success (refine rkKn ?_)); refine rkP ?_ ?_ <;> (intro hq; try (have hq' := hq; simp only [hqs] at hq')))
                | refine stp ?_
                | refine aws_draws [] mixed (by kernel_rfl) ?_
                | refine ifT ?_
                | refine ifF ?_
                | (refine ifQ ?_ ?_ <;> (try (intro hn)))
                | (refine ifB ?_ ?_ <;> (intro hq; try (have hq' := hq; simp only [hqs] at hq'))))
            exact rt1 rfl rfl finS_p rfl
        · have c3 : decide (60 < ((l.getD (i : Int).toNat default).2.2.length : Int)) = false := decide_eq_false (by omega)
          have hn : ∀ j, j < i + 1 → ¬ (30 < l.length ∨ 100 < (l.getD j default).1.length ∨ 60 < (l.getD j default).2.2.length) := fun j hj => by
            by_cases e : j = i
            · rw [e]; rw [ei] at h2 h3; omega
            · exact hx j (by omega)
          as_aux_lemma =>
            repeat' (first
                | refine rnC ?_
                | refine rnSB ?_
                | refine rnG ?_
                | refine rnU ?_
                | ((fail_if_success (refine rnKn ?_)); refine rnP ?_ ?_ <;> (intro hq; try (have hq' := hq; simp only [hqs] at hq')))
                | refine rkC ?_
                | refine rkSB ?_
                | refine rkF ?_
                | refine rkU ?_
                | ((fail_if_success (refine rkKn ?_)); refine rkP ?_ ?_ <;> (intro hq; try (have hq' := hq; simp only [hqs] at hq')))
                | refine stp ?_
                | refine aws_draws [] mixed (by kernel_rfl) ?_
                | refine ifT ?_
                | refine ifF ?_
                | (refine ifQ ?_ ?_ <;> (try (intro hn)))
                | (refine ifB ?_ ?_ <;> (intro hq; try (have hq' := hq; simp only [hqs] at hq'))))
            exact ⟨i + 1, _, by omega, ⟨by omega, hn⟩, .refl, by exact frA⟩
  · have d1 : decide ((i : Int) < (l.length : Int)) = false := decide_eq_false (by omega)
    rw [show greatL l = false from decide_eq_false fun ⟨j, hj, q⟩ => hx j (by omega) q]
    as_aux_lemma =>
      repeat' (first
          | refine rnC ?_
          | refine rnSB ?_
          | refine rnG ?_
          | refine rnU ?_
          | ((fail_if_success (refine rnKn ?_)); refine rnP ?_ ?_ <;> (intro hq; try (have hq' := hq; simp only [hqs] at hq')))
          | refine rkC ?_
          | refine rkSB ?_
          | refine rkF ?_
          | refine rkU ?_
          | ((fail_if_success (refine rkKn ?_)); refine rkP ?_ ?_ <;> (intro hq; try (have hq' := hq; simp only [hqs] at hq')))
          | refine stp ?_
          | refine aws_draws [] mixed (by kernel_rfl) ?_
          | refine ifT ?_
          | refine ifF ?_
          | (refine ifQ ?_ ?_ <;> (try (intro hn)))
          | (refine ifB ?_ ?_ <;> (intro hq; try (have hq' := hq; simp only [hqs] at hq'))))
      exact rt1 rfl rfl finS_p rfl
end Go.Proofs.Ytbfjcohocedoaaa.Wi
