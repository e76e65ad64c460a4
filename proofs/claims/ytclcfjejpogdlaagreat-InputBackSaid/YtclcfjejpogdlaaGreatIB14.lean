/- wire in plain Lean: a number's bytes, and the number that bytes begin with; packs in plain Lean: readers of bytes, put one behind the other; packs in plain Lean: carts and lists as bytes, there and back -/
import Derived.Test.YtclcfjejpogdlaaGreatIB13
namespace Go.Proofs.YtclcfjejpogdlaaGreat.Wi
open Go Go.RowKit Go.Aw
set_option linter.unusedVariables false
set_option linter.unusedSimpArgs false
/-- a number's bytes, the greatest ahead; at most so many -/
def beF : Nat → Nat → List Nat
  | 0, _ => []
  | f + 1, x => if x = 0 then [] else beF f (x / 256) ++ [x % 256]
def be (x : Nat) : List Nat := beF 8 x
def numB (x : Nat) : List Nat := (be x).length :: be x
theorem beF_zero : ∀ f, beF f 0 = []
  | 0 => rfl
  | _ + 1 => rfl
theorem beF_le : ∀ f x, (beF f x).length ≤ f
  | 0, _ => Nat.le_refl _
  | f + 1, x => by
    rw [beF]
    split
    · exact Nat.zero_le _
    · have := beF_le f (x / 256)
      rw [List.length_append, List.length_singleton]; omega
theorem beF_byte : ∀ f x, ∀ b ∈ beF f x, b < 256
  | 0, _ => fun b h => by cases h
  | f + 1, x => fun b h => by
    rw [beF] at h
    split at h
    · cases h
    · rcases List.mem_append.1 h with k | k
      · exact beF_byte f _ b k
      · rw [List.mem_singleton.1 k]; exact Nat.mod_lt _ (by decide)
theorem beF_step {f x : Nat} (h : x ≠ 0) : (beF (f + 1) x).length = (beF f (x / 256)).length + 1 := by
  rw [beF, if_neg h, List.length_append, List.length_singleton]
theorem beF_get : ∀ (f x j : Nat), j < (beF f x).length → (beF f x).getD j default = x / 256 ^ ((beF f x).length - 1 - j) % 256
  | 0, x, j, h => by exact absurd h (Nat.not_lt_zero _)
  | f + 1, x, j, h => by
    by_cases hx : x = 0
    · subst hx; rw [beF_zero] at h; exact absurd h (Nat.not_lt_zero _)
    · have hl := beF_step (f := f) hx
      have ih := beF_get f (x / 256) j
      rw [hl]
      rw [beF, if_neg hx] at h ⊢
      rw [List.length_append, List.length_singleton] at h
      by_cases hj : j < (beF f (x / 256)).length
      · rw [List.getD_eq_getElem?_getD, List.getElem?_append_left hj, ← List.getD_eq_getElem?_getD, ih hj, Nat.div_div_eq_div_mul]
        congr 2
        rw [show (beF f (x / 256)).length + 1 - 1 - j = ((beF f (x / 256)).length - 1 - j) + 1 by omega, Nat.pow_succ, Nat.mul_comm]
      · obtain rfl : j = (beF f (x / 256)).length := by omega
        rw [List.getD_eq_getElem?_getD, List.getElem?_append_right (Nat.le_refl _), Nat.sub_self, show (beF f (x / 256)).length + 1 - 1 - (beF f (x / 256)).length = 0 by omega]
        simp
theorem be_take {x j : Nat} (h : j < (be x).length) : (be x).take (j + 1) = (be x).take j ++ [x / 256 ^ ((be x).length - 1 - j) % 256] := by
  show (beF 8 x).take (j + 1) = (beF 8 x).take j ++ [x / 256 ^ ((beF 8 x).length - 1 - j) % 256]
  have h' : j < (beF 8 x).length := h
  rw [← beF_get 8 x j h', List.take_succ_eq_append_getElem h', List.getD_eq_getElem?_getD, List.getElem?_eq_getElem h']; rfl
theorem pow8 (i : Nat) : 2 ^ (8 * i) = 256 ^ i := by rw [Nat.pow_mul]
/-! what bytes say -/
/-- the bytes that are left, and the fault -/
abbrev RS := List Nat × Int
def takeS (n : Nat) (r : RS) : List Nat × RS := if r.2 ≠ 0 then ([], r) else if r.1.length < n then ([], (r.1, 8)) else (r.1.take n, (r.1.drop n, 0))
def mustS (is : Bool) (r : RS) : RS := if r.2 = 0 ∧ is = false then (r.1, 3) else r
def valB (l : List Nat) : Nat := l.foldl (fun n c => n * 256 + c) 0
/-- the number that stands here -/
def numR1 (r : RS) : RS := mustS (decide ((((takeS 1 r).1.getD (0 : Int).toNat default : Nat) : Int) ≤ 8)) (takeS 1 r).2
def numL (r : RS) : List Nat × RS := takeS ((takeS 1 r).1.getD (0 : Int).toNat default) (numR1 r)
def numR2 (r : RS) : RS := mustS (if (numL r).1.length = 0 then true else decide (0 < (((numL r).1.getD (0 : Int).toNat default : Nat) : Int))) (numL r).2
def numS (r : RS) : Nat × RS := if (takeS 1 r).1.length = 0 then (0, (takeS 1 r).2) else (if (numR2 r).2 = 0 then valB (numL r).1 else 0, numR2 r)
def smallS (most : Int) (r : RS) : Int × RS :=
  (if (mustS (decide (0 ≤ most) && decide (((numS r).1 : Int) ≤ most)) (numS r).2).2 = 0 then ((numS r).1 : Int) else 0, mustS (decide (0 ≤ most) && decide (((numS r).1 : Int) ≤ most)) (numS r).2)
theorem take_byte {n : Nat} {r : RS} (h : ∀ b ∈ r.1, b < 256) : (∀ b ∈ (takeS n r).1, b < 256) ∧ ∀ b ∈ (takeS n r).2.1, b < 256 := by
  unfold takeS
  split
  · exact ⟨fun b k => (by cases k), h⟩
  · split
    · exact ⟨fun b k => (by cases k), h⟩
    · exact ⟨fun b k => h b (List.mem_of_mem_take k), fun b k => h b (List.mem_of_mem_drop k)⟩
theorem take_len {n : Nat} {r : RS} : (takeS n r).1.length ≤ n ∧ (takeS n r).1.length ≤ r.1.length ∧ (takeS n r).2.1.length ≤ r.1.length := by
  unfold takeS
  split
  · exact ⟨Nat.zero_le _, Nat.zero_le _, Nat.le_refl _⟩
  · split
    · exact ⟨Nat.zero_le _, Nat.zero_le _, Nat.le_refl _⟩
    · simp only [List.length_take, List.length_drop]; omega
theorem must_1 {is : Bool} {r : RS} : (mustS is r).1 = r.1 := by unfold mustS; split <;> rfl
theorem take_bad {n : Nat} {r : RS} (h : r.2 ≠ 0) : takeS n r = ([], r) := by unfold takeS; rw [if_pos h]
theorem numL_len (r : RS) : (numL r).1.length ≤ 8 := by
  unfold numL
  by_cases h : (takeS 1 r).1.getD (0 : Int).toNat default ≤ 8
  · exact Nat.le_trans take_len.1 h
  · have : (numR1 r).2 ≠ 0 := by
      unfold numR1 mustS
      rw [decide_eq_false (by omega)]
      by_cases k : (takeS 1 r).2.2 = 0
      · rw [if_pos ⟨k, rfl⟩]; exact (by decide : (3 : Int) ≠ 0)
      · rw [if_neg (fun q => k q.1)]; exact k
    rw [take_bad this]; exact Nat.zero_le _
theorem numR1_byte {r : RS} (h : ∀ b ∈ r.1, b < 256) : ∀ b ∈ (numR1 r).1, b < 256 := by
  unfold numR1; rw [must_1]; exact (take_byte h).2
theorem numL_byte {r : RS} (h : ∀ b ∈ r.1, b < 256) : ∀ b ∈ (numL r).1, b < 256 := (take_byte (numR1_byte h)).1
theorem valB_snoc (l : List Nat) (c : Nat) : valB (l ++ [c]) = valB l * 256 + c := by unfold valB; rw [List.foldl_append]; rfl
theorem valB_lt : ∀ (n : Nat) (l : List Nat), l.length = n → (∀ b ∈ l, b < 256) → valB l < 256 ^ n
  | 0, l, h, _ => by rw [List.eq_nil_of_length_eq_zero h]; decide
  | n + 1, l, h, hb => by
    obtain ⟨l', c, rfl⟩ : ∃ l' c, l = l' ++ [c] := ⟨l.dropLast, l.getLast (by intro e; rw [e] at h; cases h), (List.dropLast_concat_getLast _).symm⟩
    rw [List.length_append, List.length_singleton] at h
    have ih := valB_lt n l' (by omega) fun b k => hb b (List.mem_append_left _ k)
    have hc := hb c (List.mem_append_right _ List.mem_cons_self)
    rw [valB_snoc, Nat.pow_succ]; omega
theorem valB_fit {l : List Nat} (h : l.length ≤ 8) (hb : ∀ b ∈ l, b < 256) : valB l < 18446744073709551616 := by
  have h1 := valB_lt l.length l rfl hb
  have h2 : 256 ^ l.length ≤ 256 ^ 8 := Nat.pow_le_pow_right (by decide) h
  exact Nat.lt_of_lt_of_le h1 h2
theorem numS_fit {r : RS} (h : ∀ b ∈ r.1, b < 256) : (numS r).1 < 18446744073709551616 := by
  unfold numS
  split
  · exact (by decide : 0 < 18446744073709551616)
  · dsimp only
    split
    · exact valB_fit (numL_len r) (numL_byte h)
    · decide
/-- one byte more, as the machine does it -/
theorem byte_in {a c M : Nat} (ha : a * 256 + c < M) (hc : c < 256) : ((a * 256) % M % M ||| c % M % M) = a * 256 + c := by
  have h1 : c < M := by omega
  have h2 : a * 256 < M := Nat.lt_of_le_of_lt (Nat.le_add_right _ c) ha
  rw [Nat.mod_eq_of_lt h1, Nat.mod_eq_of_lt h1, Nat.mod_eq_of_lt h2, Nat.mod_eq_of_lt h2]
  have := Nat.shiftLeft_add_eq_or_of_lt (i := 8) (show c < 2 ^ 8 from hc) a
  rw [Nat.shiftLeft_eq] at this
  exact this.symm
end Go.Proofs.YtclcfjejpogdlaaGreat.Wi
namespace Go.Proofs.YtclcfjejpogdlaaGreat.Wi
open Go Go.RowKit Go.Aw Go.Aw.Cart Go.Proofs.YtclcfjejpogdlaaGreat.Ca
set_option linter.unusedVariables false
set_option linter.unusedSimpArgs false
/-- a reader: a fault stays, what it reads does not hang on what stands behind, and what is left is the end of what was there -/
structure Par {α : Type} (P : RS → α × RS) : Prop where
  bad : ∀ r, r.2 ≠ 0 → (P r).2 = r
  ext : ∀ l y rest q, P (l, 0) = (y, (rest, 0)) → P (l ++ q, 0) = (y, (rest ++ q, 0))
  suf : ∀ r, (P r).2.1 <:+ r.1
theorem Par.byte {α : Type} {P : RS → α × RS} (h : Par P) {r : RS} (hb : ∀ b ∈ r.1, b < 256) : ∀ b ∈ (P r).2.1, b < 256 := fun b k => hb b ((h.suf r).subset k)
theorem Par.len {α : Type} {P : RS → α × RS} (h : Par P) (r : RS) : (P r).2.1.length ≤ r.1.length := (h.suf r).length_le
def bindS {α β : Type} (P : RS → α × RS) (Q : α → RS → β × RS) (r : RS) : β × RS := Q (P r).1 (P r).2
def pureS {α : Type} (a : α) (r : RS) : α × RS := (a, r)
def mustU (b : Bool) (r : RS) : Unit × RS := ((), mustS b r)
def okS {α : Type} (a z : α) (r : RS) : α × RS := (if r.2 = 0 then a else z, r)
theorem par_bind {α β : Type} {P : RS → α × RS} {Q : α → RS → β × RS} (hP : Par P) (hQ : ∀ a, Par (Q a)) : Par (bindS P Q) where
  bad := fun r h => by
    have h1 := hP.bad r h
    show (Q (P r).1 (P r).2).2 = r
    rw [h1]
    exact (hQ _).bad r h
  ext := fun l y rest q h => by
    have h0 : Q (P (l, 0)).1 (P (l, 0)).2 = (y, (rest, 0)) := h
    obtain ⟨a, m, e⟩ : ∃ a m, P (l, 0) = (a, (m, 0)) := by
      by_cases he : (P (l, 0)).2.2 = 0
      · exact ⟨(P (l, 0)).1, (P (l, 0)).2.1, Prod.ext rfl (Prod.ext rfl he)⟩
      · have := (hQ (P (l, 0)).1).bad _ he
        rw [h0] at this
        exact absurd (by rw [← this]) he
    rw [e] at h0
    show Q (P (l ++ q, 0)).1 (P (l ++ q, 0)).2 = _
    rw [hP.ext l a m q e]
    exact (hQ a).ext m y rest q h0
  suf := fun r => ((hQ (P r).1).suf (P r).2).trans (hP.suf r)
theorem par_pure {α : Type} (a : α) : Par (pureS a) where
  bad := fun r h => rfl
  ext := fun l y rest q h => by
    unfold pureS at h ⊢
    obtain ⟨h1, h⟩ := Prod.mk.inj h
    obtain ⟨h2, -⟩ := Prod.mk.inj h
    rw [h1, h2]
  suf := fun r => List.suffix_refl _
theorem par_ok {α : Type} (a z : α) : Par (okS a z) where
  bad := fun r h => rfl
  ext := fun l y rest q h => by
    unfold okS at h ⊢
    obtain ⟨h1, h⟩ := Prod.mk.inj h
    obtain ⟨h2, -⟩ := Prod.mk.inj h
    rw [if_pos rfl] at h1 ⊢
    rw [h1, h2]
  suf := fun r => List.suffix_refl _
theorem par_must (b : Bool) : Par (mustU b) where
  bad := fun r h => by
    show mustS b r = r
    unfold mustS
    rw [if_neg (fun q => h q.1)]
  ext := fun l y rest q h => by
    cases b with
    | true =>
      unfold mustU mustS at h ⊢
      rw [if_neg (by simp)] at h ⊢
      obtain ⟨-, h⟩ := Prod.mk.inj h
      obtain ⟨h2, -⟩ := Prod.mk.inj h
      rw [h2]
    | false =>
      unfold mustU mustS at h
      rw [if_pos ⟨rfl, rfl⟩] at h
      have := congrArg (fun x => x.2.2) h
      exact absurd (show (3 : Int) = 0 from this) (by decide)
  suf := fun r => by
    show (mustS b r).1 <:+ _
    rw [must_1]
    exact List.suffix_refl _
theorem par_take (n : Nat) : Par (takeS n) where
  bad := fun r h => by rw [take_bad h]
  ext := fun l y rest q h => by
    unfold takeS at h ⊢
    rw [if_neg (by simp)] at h ⊢
    dsimp only at h ⊢
    by_cases hl : l.length < n
    · rw [if_pos hl] at h
      have := congrArg (fun x => x.2.2) h
      exact absurd (show (8 : Int) = 0 from this) (by decide)
    · rw [if_neg hl] at h
      rw [if_neg (by rw [List.length_append]; omega)]
      obtain ⟨h1, h2⟩ := Prod.mk.inj h
      obtain ⟨h2, -⟩ := Prod.mk.inj h2
      rw [List.take_append_of_le_length (by omega), List.drop_append_of_le_length (by omega), h1, h2]
  suf := fun r => by
    unfold takeS
    split
    · exact List.suffix_refl _
    · split
      · exact List.suffix_refl _
      · exact List.drop_suffix _ _
theorem numS_eq : numS = bindS (takeS 1) fun hd => if hd.length = 0 then pureS 0 else bindS (mustU (decide (((hd.getD (0 : Int).toNat default : Nat) : Int) ≤ 8))) fun _ => bindS (takeS (hd.getD (0 : Int).toNat default)) fun L =>
    bindS (mustU (if L.length = 0 then true else decide (0 < ((L.getD (0 : Int).toNat default : Nat) : Int)))) fun _ => okS (valB L) 0 := by
  funext r
  unfold numS
  show _ = (if (takeS 1 r).1.length = 0 then pureS 0 else _) (takeS 1 r).2
  by_cases h : (takeS 1 r).1.length = 0
  · rw [if_pos h, if_pos h]; rfl
  · rw [if_neg h, if_neg h]; rfl
theorem par_num : Par numS := by
  rw [numS_eq]
  refine par_bind (par_take 1) fun hd => ?_
  split
  · exact par_pure _
  · exact par_bind (par_must _) fun _ => par_bind (par_take _) fun L => par_bind (par_must _) fun _ => par_ok _ _
theorem smallS_eq (most : Int) : smallS most = bindS numS fun n => bindS (mustU (decide (0 ≤ most) && decide ((n : Int) ≤ most))) fun _ => okS (n : Int) 0 := rfl
theorem par_small (most : Int) : Par (smallS most) := by
  rw [smallS_eq]
  exact par_bind par_num fun _ => par_bind (par_must _) fun _ => par_ok _ _
/-- whole numbers -/
def zig (n : Int) : Nat := if 0 ≤ n then (2 * n).toNat else (2 * (-n - 1) + 1).toNat
def unz (m : Nat) : Int := if m % 2 = 1 then -((m / 2 : Nat) : Int) - 1 else ((m / 2 : Nat) : Int)
def zOk (m : Nat) : Bool := if m % 2 = 0 then decide (m / 2 ≤ 4611686018427387904) else decide (m / 2 < 4611686018427387904)
def intB (n : Int) : List Nat := numB (zig n)
def intS : RS → Int × RS := bindS numS fun m => bindS (mustU (zOk m)) fun _ => okS (unz m) 0
theorem par_int : Par intS := par_bind par_num fun _ => par_bind (par_must _) fun _ => par_ok _ _
/-- texts -/
def textB (b : List Nat) : List Nat := numB b.length ++ b
def textS (most : Int) : RS → List Nat × RS := bindS (smallS most) fun n => takeS n.toNat
theorem par_text (most : Int) : Par (textS most) := par_bind (par_small _) fun _ => par_take _
/-- so many, all -/
def allS {α : Type} (P : RS → α × RS) : Nat → RS → List α × RS
  | 0 => pureS []
  | k + 1 => bindS (allS P k) fun l => bindS P fun a => pureS (l ++ [a])
theorem par_all {α : Type} {P : RS → α × RS} (hP : Par P) : ∀ k, Par (allS P k)
  | 0 => par_pure _
  | k + 1 => par_bind (par_all hP k) fun _ => par_bind hP fun _ => par_pure _
/-- so many, up to a fault -/
def manyS {α : Type} (P : RS → α × RS) : Nat → RS → List α × RS
  | 0, r => ([], r)
  | k + 1, r => if (manyS P k r).2.2 = 0 then ((manyS P k r).1 ++ [(P (manyS P k r).2).1], (P (manyS P k r).2).2) else manyS P k r
theorem par_many {α : Type} {P : RS → α × RS} (hP : Par P) : ∀ k, Par (manyS P k)
  | 0 => par_pure []
  | k + 1 => {
    bad := fun r h => by
      have h1 := (par_many hP k).bad r h
      rw [manyS, if_neg (by rw [h1]; exact h)]
      exact h1
    ext := fun l y rest q h => by
      rw [manyS] at h ⊢
      by_cases he : (manyS P k (l, 0)).2.2 = 0
      · rw [if_pos he] at h
        have e : manyS P k (l, 0) = ((manyS P k (l, 0)).1, ((manyS P k (l, 0)).2.1, 0)) := Prod.ext rfl (Prod.ext rfl he)
        have hx := (par_many hP k).ext l _ _ q e
        rw [hx, if_pos rfl]
        obtain ⟨h1, h2⟩ := Prod.mk.inj h
        have e2 : P ((manyS P k (l, 0)).2.1, 0) = ((P (manyS P k (l, 0)).2).1, (rest, 0)) := by
          rw [show ((manyS P k (l, 0)).2.1, (0 : Int)) = (manyS P k (l, 0)).2 from Prod.ext rfl he.symm]
          exact Prod.ext rfl h2
        have hy := hP.ext _ _ _ q e2
        dsimp only
        rw [hy, ← h1]
      · rw [if_neg he] at h
        exact absurd (by rw [h]) he
    suf := fun r => by
      rw [manyS]
      split
      · exact (hP.suf _).trans ((par_many hP k).suf r)
      · exact (par_many hP k).suf r }
theorem many_len {α : Type} (P : RS → α × RS) (r : RS) : ∀ k, (manyS P k r).1.length ≤ k
  | 0 => Nat.le_refl _
  | k + 1 => by
    have := many_len P r k
    rw [manyS]
    split
    · rw [List.length_append, List.length_singleton]; omega
    · omega
theorem all_len {α : Type} (P : RS → α × RS) : ∀ k r, (allS P k r).1.length = k
  | 0, r => rfl
  | k + 1, r => by
    have := all_len P k r
    show ((allS P k r).1 ++ [_]).length = _
    rw [List.length_append, List.length_singleton, this]
/-! back -/
theorem flat_drop {α : Type} (enc : α → List Nat) (L : List α) {k : Nat} (h : k < L.length) : (L.drop k).flatMap enc = enc L[k] ++ (L.drop (k + 1)).flatMap enc := by
  rw [List.drop_eq_getElem_cons h, List.flatMap_cons]
theorem all_back {α : Type} {P : RS → α × RS} {enc : α → List Nat} {L : List α} (h : ∀ a ∈ L, ∀ q, P (enc a ++ q, 0) = (a, (q, 0))) (q : List Nat) : ∀ k, k ≤ L.length → allS P k (L.flatMap enc ++ q, 0) = (L.take k, ((L.drop k).flatMap enc ++ q, 0))
  | 0, _ => rfl
  | k + 1, hk => by
    have ih := all_back h q k (by omega)
    show bindS (allS P k) _ _ = _
    unfold bindS
    rw [ih]
    dsimp only
    rw [flat_drop enc L (show k < L.length by omega), List.append_assoc, h _ (List.getElem_mem _), List.take_succ_eq_append_getElem (by omega)]
    rfl
theorem many_back {α : Type} {P : RS → α × RS} {enc : α → List Nat} {L : List α} (h : ∀ a ∈ L, ∀ q, P (enc a ++ q, 0) = (a, (q, 0))) (q : List Nat) : ∀ k, k ≤ L.length → manyS P k (L.flatMap enc ++ q, 0) = (L.take k, ((L.drop k).flatMap enc ++ q, 0))
  | 0, _ => rfl
  | k + 1, hk => by
    have ih := many_back h q k (by omega)
    rw [manyS, ih]
    dsimp only
    rw [if_pos rfl, flat_drop enc L (show k < L.length by omega), List.append_assoc, h _ (List.getElem_mem _), List.take_succ_eq_append_getElem (by omega)]
theorem valB_be : ∀ (f x : Nat), x < 256 ^ f → valB (beF f x) = x
  | 0, x, h => by rw [Nat.pow_zero] at h; rw [show x = 0 by omega]; rfl
  | f + 1, x, h => by
    rw [beF]
    split
    · rename_i hx; rw [hx]; rfl
    · rw [valB_snoc, valB_be f (x / 256) (by rw [Nat.pow_succ] at h; exact Nat.div_lt_of_lt_mul (by rw [Nat.mul_comm]; exact h))]
      omega
theorem be_head : ∀ (f x : Nat), x < 256 ^ f → (beF f x).length ≠ 0 → 0 < (beF f x).getD 0 default
  | 0, x, _, h => absurd rfl h
  | f + 1, x, hx, h => by
    rw [beF] at h ⊢
    by_cases h0 : x = 0
    · rw [if_pos h0] at h; exact absurd rfl h
    · rw [if_neg h0]
      have hx' : x / 256 < 256 ^ f := by rw [Nat.pow_succ] at hx; exact Nat.div_lt_of_lt_mul (by rw [Nat.mul_comm]; exact hx)
      by_cases hl : (beF f (x / 256)).length = 0
      · have e := List.eq_nil_of_length_eq_zero hl
        have hz : x / 256 = 0 := by
          have := valB_be f (x / 256) hx'
          rw [e] at this
          exact this.symm
        rw [e]
        show 0 < x % 256
        omega
      · rw [List.getD_eq_getElem?_getD, List.getElem?_append_left (by omega), ← List.getD_eq_getElem?_getD]
        exact be_head f (x / 256) hx' hl
theorem take_ok {n : Nat} {a q : List Nat} (h : a.length = n) : takeS n (a ++ q, 0) = (a, (q, 0)) := by
  unfold takeS
  rw [if_neg (by simp)]
  dsimp only
  rw [if_neg (by rw [List.length_append]; omega), List.take_append_of_le_length (by omega), List.take_of_length_le (by omega), List.drop_append_of_le_length (by omega), List.drop_of_length_le (by omega)]
  rfl
theorem must_ok {b : Bool} {r : RS} (h : b = true) : mustU b r = ((), r) := by
  unfold mustU mustS
  rw [if_neg (by rw [h]; simp)]
theorem num_back {x : Nat} (hx : x < 18446744073709551616) (q : List Nat) : numS (numB x ++ q, 0) = (x, (q, 0)) := by
  have hx' : x < 256 ^ 8 := hx
  have h8 : (be x).length ≤ 8 := beF_le 8 x
  rw [numS_eq]
  unfold bindS
  have e1 : takeS 1 (numB x ++ q, 0) = ([(be x).length], (be x ++ q, 0)) := take_ok (n := 1) (a := [(be x).length]) (q := be x ++ q) rfl
  rw [e1]
  dsimp only
  rw [if_neg (by simp)]
  have e2 : ([(be x).length] : List Nat).getD (0 : Int).toNat default = (be x).length := rfl
  rw [e2, must_ok (decide_eq_true (by omega))]
  dsimp only
  rw [take_ok rfl]
  dsimp only
  rw [must_ok (by
    split
    · rfl
    · rename_i h
      refine decide_eq_true ?_
      have := be_head 8 x hx' h
      exact Int.natCast_pos.2 this)]
  show okS (valB (be x)) 0 (q, 0) = _
  unfold okS
  rw [if_pos rfl, show valB (be x) = x from valB_be 8 x hx']
theorem small_back {x : Nat} {most : Int} (hx : (x : Int) ≤ most) (hm : most ≤ 9223372036854775807) (q : List Nat) : smallS most (numB x ++ q, 0) = ((x : Int), (q, 0)) := by
  rw [smallS_eq]
  unfold bindS
  rw [num_back (by omega)]
  dsimp only
  rw [must_ok (by rw [decide_eq_true (show 0 ≤ most by omega), decide_eq_true hx]; rfl)]
  rfl
theorem zig_unz (n : Int) : unz (zig n) = n := by
  unfold unz zig
  by_cases h : 0 ≤ n
  · rw [if_pos h, if_neg (by omega)]; omega
  · rw [if_neg h, if_pos (by omega)]; omega
theorem zig_ok {n : Int} (h : -4611686018427387904 ≤ n ∧ n ≤ 4611686018427387904) : zOk (zig n) = true ∧ zig n < 18446744073709551616 := by
  unfold zOk zig
  by_cases h0 : 0 ≤ n
  · rw [if_pos h0, if_pos (by omega)]
    exact ⟨decide_eq_true (by omega), by omega⟩
  · rw [if_neg h0, if_neg (by omega)]
    exact ⟨decide_eq_true (by omega), by omega⟩
theorem int_back {n : Int} (h : -4611686018427387904 ≤ n ∧ n ≤ 4611686018427387904) (q : List Nat) : intS (intB n ++ q, 0) = (n, (q, 0)) := by
  unfold intS intB bindS
  rw [num_back (zig_ok h).2]
  dsimp only
  rw [must_ok (zig_ok h).1]
  unfold okS
  rw [if_pos rfl, zig_unz]
theorem text_back {b : List Nat} {most : Int} (h : (b.length : Int) ≤ most) (hm : most ≤ 9223372036854775807) (q : List Nat) : textS most (textB b ++ q, 0) = (b, (q, 0)) := by
  unfold textS textB bindS
  rw [List.append_assoc, small_back h hm]
  dsimp only
  rw [Int.toNat_natCast]
  exact take_ok rfl
end Go.Proofs.YtclcfjejpogdlaaGreat.Wi
namespace Go.Proofs.YtclcfjejpogdlaaGreat.Wi
open Go Go.RowKit Go.Aw Go.Aw.Cart Go.Proofs.YtclcfjejpogdlaaGreat.Ca
set_option linter.unusedVariables false
set_option linter.unusedSimpArgs false
def numI (n : Int) : List Nat := numB n.toNat
def vecB (v : List Int) : List Nat := v.flatMap numI
def entB (e : Ent) : List Nat := numI e.1 ++ (numI e.2.1 ++ (numI e.2.2.1 ++ intB e.2.2.2))
def cartB (c : Crt) : List Nat := vecB c.1 ++ (numB c.2.length ++ c.2.flatMap entB)
/-- one number, as a whole one -/
def numZ : RS → Int × RS := bindS numS fun n => pureS (n : Int)
theorem par_numZ : Par numZ := par_bind par_num fun _ => par_pure _
def vecS : RS → List Int × RS := bindS (allS numZ 8) fun v => okS v zeroV
theorem par_vec : Par vecS := par_bind (par_all par_numZ 8) fun _ => par_ok _ _
def entS : RS → Ent × RS := bindS (smallS 60) fun a => bindS (smallS 8) fun b => bindS numZ fun c => bindS intS fun d => pureS (a, b, c, d)
theorem par_ent : Par entS := par_bind (par_small _) fun _ => par_bind (par_small _) fun _ => par_bind par_numZ fun _ => par_bind par_int fun _ => par_pure _
def cartS : RS → Crt × RS := bindS vecS fun v => bindS (smallS 400) fun n => bindS (manyS entS n.toNat) fun l => bindS (mustU (rightF v l)) fun _ => okS (v, l) (zeroV, [])
theorem par_cart : Par cartS := par_bind par_vec fun _ => par_bind (par_small _) fun _ => par_bind (par_many par_ent _) fun _ => par_bind (par_must _) fun _ => par_ok _ _
/-- the fault, or whether bytes are left -/
def endS (r : RS) : Int := if r.2 ≠ 0 then r.2 else if 0 < r.1.length then 2 else 0
def vecOk (v : List Int) : Prop := v.length = 8 ∧ ∀ n ∈ v, 0 ≤ n ∧ n < 18446744073709551616
theorem numZ_back {n : Int} (h : 0 ≤ n ∧ n < 18446744073709551616) (q : List Nat) : numZ (numI n ++ q, 0) = (n, (q, 0)) := by
  unfold numZ numI bindS
  rw [num_back (by omega)]
  show ((n.toNat : Int), (q, (0 : Int))) = _
  rw [Int.toNat_of_nonneg h.1]
theorem vec_back {v : List Int} (h : vecOk v) (q : List Nat) : vecS (vecB v ++ q, 0) = (v, (q, 0)) := by
  have h1 := all_back (P := numZ) (enc := numI) (L := v) (fun a ha q => numZ_back (h.2 a ha) q) q 8 (by rw [h.1]; exact Nat.le_refl _)
  unfold vecS bindS vecB
  rw [h1, List.take_of_length_le (by rw [h.1]; exact Nat.le_refl _), List.drop_of_length_le (by rw [h.1]; exact Nat.le_refl _)]
  rfl
theorem smallI_back {n most : Int} (h0 : 0 ≤ n) (h : n ≤ most) (hm : most ≤ 9223372036854775807) (q : List Nat) : smallS most (numI n ++ q, 0) = (n, (q, 0)) := by
  unfold numI
  rw [small_back (by omega) hm, Int.toNat_of_nonneg h0]
def entOk (e : Ent) : Prop := (0 ≤ e.1 ∧ e.1 ≤ 60) ∧ (0 ≤ e.2.1 ∧ e.2.1 ≤ 8) ∧ (0 ≤ e.2.2.1 ∧ e.2.2.1 < 18446744073709551616) ∧ (-1000 ≤ e.2.2.2 ∧ e.2.2.2 ≤ 1000)
theorem ent_back {e : Ent} (h : entOk e) (q : List Nat) : entS (entB e ++ q, 0) = (e, (q, 0)) := by
  obtain ⟨h1, h2, h3, h4⟩ := h
  unfold entS entB bindS
  rw [List.append_assoc, smallI_back h1.1 h1.2 (by decide)]
  dsimp only
  rw [List.append_assoc, smallI_back h2.1 h2.2 (by decide)]
  dsimp only
  rw [List.append_assoc, numZ_back h3]
  dsimp only
  rw [int_back (by omega)]
  rfl
theorem get_fit {v : List Int} (h : ∀ n ∈ v, 0 ≤ n ∧ n < 18446744073709551616) (i : Int) : getF v i < 18446744073709551616 := by
  unfold getF
  split
  · rcases Nat.lt_or_ge (i - 1).toNat v.length with hj | hj
    · have e : v.getD (i - 1).toNat default = v[(i - 1).toNat] := getD_at hj
      first | (rw [e]; exact (h _ (List.getElem_mem _)).2) | omega
    · rw [List.getD_eq_getElem?_getD, List.getElem?_eq_none hj]; decide
  · decide
theorem ok_ents {c : Crt} (hr : rightF c.1 c.2 = true) (hv : vecOk c.1) : ∀ e ∈ c.2, entOk e := by
  intro e he
  have ho := ok_iff.1 hr
  have h1 := ho.ent e he
  have h2 := ho.has e he
  unfold entF at h1
  unfold hasF dotF at h2
  have h1 := of_decide_eq_true h1
  rw [Bool.and_eq_true, decide_eq_true_eq, decide_eq_true_eq] at h2
  obtain ⟨⟨b1, b2, b3⟩, b4⟩ := h2
  have b1 : 1 ≤ e.2.1 := b1
  have b2 : e.2.1 ≤ 8 := b2
  have b3 : 0 < e.2.2.1 := b3
  have b4 : e.2.2.1 ≤ getF c.1 e.2.1 := b4
  have := get_fit hv.2 e.2.1
  unfold entOk
  omega
theorem cart_back {c : Crt} (hr : rightF c.1 c.2 = true) (hv : vecOk c.1) (q : List Nat) : cartS (cartB c ++ q, 0) = (c, (q, 0)) := by
  have hl : c.2.length ≤ 400 := (ok_iff.1 hr).few
  have hm := many_back (P := entS) (enc := entB) (L := c.2) (fun a ha q => ent_back (ok_ents hr hv a ha) q) q c.2.length (Nat.le_refl _)
  unfold cartS cartB bindS
  rw [List.append_assoc, vec_back hv]
  dsimp only
  rw [List.append_assoc, small_back (by omega) (by decide)]
  dsimp only
  rw [Int.toNat_natCast, hm]
  dsimp only
  rw [List.take_of_length_le (Nat.le_refl _), List.drop_of_length_le (Nat.le_refl _), must_ok hr]
  rfl
/-! lists -/
abbrev Kd := List Nat × Crt
/-- is a text ahead of another one, as bytes? -/
def bLt : List Nat → List Nat → Bool
  | [], [] => false
  | [], _ :: _ => true
  | _ :: _, [] => false
  | a :: l, b :: m => if a = b then bLt l m else decide (a < b)
def kdB (k : Kd) : List Nat := textB k.1 ++ cartB k.2
def listB (l : List Kd) : List Nat := numB l.length ++ l.flatMap kdB
def kdS : RS → Kd × RS := bindS (textS 20) fun k => bindS cartS fun c => pureS (k, c)
theorem par_kd : Par kdS := par_bind (par_text _) fun _ => par_bind par_cart fun _ => par_pure _
def listS : RS → List Kd × RS := bindS (smallS 2000) fun n => manyS kdS n.toNat
def kdOk (l : List Kd) (i : Nat) : Bool := decide ((l.getD i default).1.length ≤ 20) && ((decide (i = 0) || bLt (l.getD (i - 1) default).1 (l.getD i default).1) && rightF (l.getD i default).2.1 (l.getD i default).2.2)
/-- which lists may be -/
def keysF (l : List Kd) : Bool := decide (l.length ≤ 2000 ∧ ∀ i, i < l.length → kdOk l i = true)
def readL (b : List Nat) : List Kd × Int := if endS (listS (b, 0)).2 ≠ 0 ∨ keysF (listS (b, 0)).1 = false then ([], 3) else ((listS (b, 0)).1, 0)
end Go.Proofs.YtclcfjejpogdlaaGreat.Wi
