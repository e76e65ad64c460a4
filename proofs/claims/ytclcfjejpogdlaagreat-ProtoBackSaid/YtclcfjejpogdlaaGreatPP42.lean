/- packs in plain Lean: bytes are read in one way alone -/
import Derived.Test.YtclcfjejpogdlaaGreatPP22
namespace Go.Proofs.YtclcfjejpogdlaaGreat.Wi
open Go Go.RowKit Go.Aw Go.Aw.Cart Go.Proofs.YtclcfjejpogdlaaGreat.Ca
set_option linter.unusedVariables false
set_option linter.unusedSimpArgs false
/-- what is read without a fault is what its bytes say -/
def Can {α : Type} (P : RS → α × RS) (B : α → List Nat) : Prop := ∀ l y rest, okB l → P (l, 0) = (y, (rest, 0)) → l = B y ++ rest
theorem okB_r {a b : List Nat} (h : okB (a ++ b)) : okB b := fun c hc => h c (List.mem_append_right _ hc)
theorem okB_l {a b : List Nat} (h : okB (a ++ b)) : okB a := fun c hc => h c (List.mem_append_left _ hc)
theorem bind_inv {α β : Type} {P : RS → α × RS} {Q : α → RS → β × RS} (hQ : ∀ a, Par (Q a)) {l : List Nat} {y : β} {rest : List Nat} (h : bindS P Q (l, 0) = (y, (rest, 0))) : ∃ a m, P (l, 0) = (a, (m, 0)) ∧ Q a (m, 0) = (y, (rest, 0)) := by
  have h0 : Q (P (l, 0)).1 (P (l, 0)).2 = (y, (rest, 0)) := h
  by_cases he : (P (l, 0)).2.2 = 0
  · refine ⟨(P (l, 0)).1, (P (l, 0)).2.1, Prod.ext rfl (Prod.ext rfl he), ?_⟩
    have e : ((P (l, 0)).2.1, (0 : Int)) = (P (l, 0)).2 := Prod.ext rfl he.symm
    rw [e]
    exact h0
  · have := (hQ (P (l, 0)).1).bad _ he
    rw [h0] at this
    exact absurd (by rw [← this]) he
theorem pure_inv {α : Type} {a y : α} {l rest : List Nat} (h : pureS a (l, 0) = (y, (rest, 0))) : y = a ∧ rest = l := by
  unfold pureS at h
  obtain ⟨h1, h⟩ := Prod.mk.inj h
  obtain ⟨h2, -⟩ := Prod.mk.inj h
  exact ⟨h1.symm, h2.symm⟩
theorem ok_inv {α : Type} {a z y : α} {l rest : List Nat} (h : okS a z (l, 0) = (y, (rest, 0))) : y = a ∧ rest = l := by
  unfold okS at h
  obtain ⟨h1, h⟩ := Prod.mk.inj h
  obtain ⟨h2, -⟩ := Prod.mk.inj h
  rw [if_pos rfl] at h1
  exact ⟨h1.symm, h2.symm⟩
theorem must_inv {b : Bool} {u : Unit} {l rest : List Nat} (h : mustU b (l, 0) = (u, (rest, 0))) : b = true ∧ rest = l := by
  unfold mustU mustS at h
  cases b with
  | true =>
    rw [if_neg (by simp)] at h
    obtain ⟨-, h⟩ := Prod.mk.inj h
    obtain ⟨h2, -⟩ := Prod.mk.inj h
    exact ⟨rfl, h2.symm⟩
  | false =>
    rw [if_pos ⟨rfl, rfl⟩] at h
    have := congrArg (fun x => x.2.2) h
    exact absurd (show (3 : Int) = 0 from this) (by decide)
theorem take_inv {n : Nat} {x l rest : List Nat} (h : takeS n (l, 0) = (x, (rest, 0))) : l = x ++ rest ∧ x.length = n := by
  unfold takeS at h
  rw [if_neg (by simp)] at h
  dsimp only at h
  by_cases hl : l.length < n
  · rw [if_pos hl] at h
    have := congrArg (fun x => x.2.2) h
    exact absurd (show (8 : Int) = 0 from this) (by decide)
  · rw [if_neg hl] at h
    obtain ⟨h1, h⟩ := Prod.mk.inj h
    obtain ⟨h2, -⟩ := Prod.mk.inj h
    rw [← h1, ← h2, List.take_append_drop]
    exact ⟨rfl, by rw [List.length_take]; omega⟩
theorem val_pos : ∀ (n : Nat) (L : List Nat), L.length = n → 0 < n → 0 < L.getD 0 default → 0 < valB L
  | 0, _, _, h, _ => absurd h (Nat.lt_irrefl _)
  | n + 1, L, h, _, hp => by
    obtain ⟨L', c, rfl⟩ : ∃ L' c, L = L' ++ [c] := ⟨L.dropLast, L.getLast (by intro e; rw [e] at h; cases h), (List.dropLast_concat_getLast _).symm⟩
    rw [List.length_append, List.length_singleton] at h
    rw [valB_snoc]
    by_cases hn : n = 0
    · have : L' = [] := List.eq_nil_of_length_eq_zero (by omega)
      subst this
      have : 0 < c := hp
      omega
    · have : 0 < L'.getD 0 default := by
        rw [List.getD_eq_getElem?_getD, List.getElem?_append_left (by omega), ← List.getD_eq_getElem?_getD] at hp
        exact hp
      have := val_pos n L' (by omega) (by omega) this
      omega
theorem be_val : ∀ (f : Nat) (L : List Nat), L.length ≤ f → okB L → (L.length = 0 ∨ 0 < L.getD 0 default) → beF f (valB L) = L
  | 0, L, h, _, _ => by rw [List.eq_nil_of_length_eq_zero (by omega : L.length = 0)]; rfl
  | f + 1, L, h, hb, hp => by
    by_cases h0 : L.length = 0
    · rw [List.eq_nil_of_length_eq_zero h0]; rfl
    · obtain ⟨L', c, rfl⟩ : ∃ L' c, L = L' ++ [c] := ⟨L.dropLast, L.getLast (by intro e; rw [e] at h0; exact h0 rfl), (List.dropLast_concat_getLast _).symm⟩
      have hp' : 0 < (L' ++ [c]).getD 0 default := hp.resolve_left h0
      have hv := val_pos _ (L' ++ [c]) rfl (by omega) hp'
      rw [List.length_append, List.length_singleton] at h
      have hc : c < 256 := hb c (List.mem_append_right _ List.mem_cons_self)
      have ih := be_val f L' (by omega) (okB_l hb) (by
        by_cases hn : L'.length = 0
        · exact .inl hn
        · right
          rw [List.getD_eq_getElem?_getD, List.getElem?_append_left (by omega), ← List.getD_eq_getElem?_getD] at hp'
          exact hp')
      rw [valB_snoc] at hv ⊢
      rw [beF, if_neg (by omega), show (valB L' * 256 + c) / 256 = valB L' by omega, show (valB L' * 256 + c) % 256 = c by omega, ih]
theorem num_can : Can numS numB := fun l y rest hb h => by
  rw [numS_eq] at h
  obtain ⟨hd, m, h1, h2⟩ := bind_inv (fun hd => by
    split
    · exact par_pure _
    · exact par_bind (par_must _) fun _ => par_bind (par_take _) fun L => par_bind (par_must _) fun _ => par_ok _ _) h
  obtain ⟨rfl, hl⟩ := take_inv h1
  rw [if_neg (by omega)] at h2
  obtain ⟨u, m1, h3, h4⟩ := bind_inv (fun _ => par_bind (par_take _) fun L => par_bind (par_must _) fun _ => par_ok _ _) h2
  obtain ⟨h8, rfl⟩ := must_inv h3
  obtain ⟨L, m2, h5, h6⟩ := bind_inv (fun L => par_bind (par_must _) fun _ => par_ok _ _) h4
  obtain ⟨rfl, hL⟩ := take_inv h5
  obtain ⟨u2, m3, h7, h9⟩ := bind_inv (fun _ => par_ok _ _) h6
  obtain ⟨hp, rfl⟩ := must_inv h7
  obtain ⟨rfl, rfl⟩ := ok_inv h9
  obtain ⟨c, rfl⟩ : ∃ c, hd = [c] := by
    match hd, hl with
    | [c], _ => exact ⟨c, rfl⟩
  have h8' := of_decide_eq_true h8
  have hL' : L.length = c := hL
  have hc8 : c ≤ 8 := by
    have : ((([c] : List Nat).getD (0 : Int).toNat default : Nat) : Int) = (c : Int) := rfl
    omega
  have hp' : L.length = 0 ∨ 0 < L.getD 0 default := by
    by_cases q : L.length = 0
    · exact .inl q
    · rw [if_neg q] at hp
      have := of_decide_eq_true hp
      right
      have e : L.getD (0 : Int).toNat default = L.getD 0 default := rfl
      rw [e] at this
      omega
  have hbe := be_val 8 L (by omega) (okB_l (okB_r hb)) hp'
  show [c] ++ (L ++ rest) = (beF 8 (valB L)).length :: beF 8 (valB L) ++ rest
  rw [hbe, hL']; rfl
theorem numZ_can : Can numZ numI := fun l y rest hb h => by
  obtain ⟨n, m, h1, h2⟩ := bind_inv (fun _ => par_pure _) h
  obtain ⟨rfl, rfl⟩ := pure_inv h2
  exact num_can _ _ _ hb h1
theorem small_can {most : Int} : ∀ l y rest, okB l → smallS most (l, 0) = (y, (rest, 0)) → l = numI y ++ rest ∧ 0 ≤ y ∧ y ≤ most := fun l y rest hb h => by
  rw [smallS_eq] at h
  obtain ⟨n, m, h1, h2⟩ := bind_inv (fun _ => par_bind (par_must _) fun _ => par_ok _ _) h
  obtain ⟨u, m1, h3, h4⟩ := bind_inv (fun _ => par_ok _ _) h2
  obtain ⟨hm, rfl⟩ := must_inv h3
  obtain ⟨rfl, rfl⟩ := ok_inv h4
  rw [Bool.and_eq_true, decide_eq_true_iff, decide_eq_true_iff] at hm
  exact ⟨num_can _ _ _ hb h1, by omega, hm.2⟩
theorem int_can : Can intS intB := fun l y rest hb h => by
  obtain ⟨n, m, h1, h2⟩ := bind_inv (fun _ => par_bind (par_must _) fun _ => par_ok _ _) h
  obtain ⟨u, m1, h3, h4⟩ := bind_inv (fun _ => par_ok _ _) h2
  obtain ⟨hm, rfl⟩ := must_inv h3
  obtain ⟨rfl, rfl⟩ := ok_inv h4
  have e : zig (unz n) = n := by
    unfold zig unz
    by_cases q : n % 2 = 1
    · rw [if_pos q, if_neg (by omega)]; omega
    · rw [if_neg q, if_pos (by omega)]; omega
  unfold intB
  rw [e]
  exact num_can _ _ _ hb h1
theorem text_can {most : Int} : Can (textS most) textB := fun l y rest hb h => by
  obtain ⟨n, m, h1, h2⟩ := bind_inv (fun _ => par_take _) h
  obtain ⟨rfl, h0, hn⟩ := small_can _ _ _ hb h1
  obtain ⟨rfl, hl⟩ := take_inv h2
  unfold textB numI
  rw [hl, List.append_assoc]
theorem all_can {α : Type} {P : RS → α × RS} {B : α → List Nat} (hP : Par P) (hc : Can P B) : ∀ k l xs rest, okB l → allS P k (l, 0) = (xs, (rest, 0)) → l = xs.flatMap B ++ rest
  | 0, l, xs, rest, hb, h => by
    obtain ⟨rfl, rfl⟩ := pure_inv h
    rfl
  | k + 1, l, xs, rest, hb, h => by
    obtain ⟨ys, m, h1, h2⟩ := bind_inv (fun _ => par_bind hP fun _ => par_pure _) h
    have ih := all_can hP hc k l ys m hb h1
    obtain ⟨a, m1, h3, h4⟩ := bind_inv (fun _ => par_pure _) h2
    obtain ⟨rfl, rfl⟩ := pure_inv h4
    have := hc _ _ _ (okB_r (ih ▸ hb)) h3
    rw [ih, this]; simp
theorem many_can {α : Type} {P : RS → α × RS} {B : α → List Nat} (hP : Par P) (hc : Can P B) : ∀ k l xs rest, okB l → manyS P k (l, 0) = (xs, (rest, 0)) → l = xs.flatMap B ++ rest ∧ xs.length = k
  | 0, l, xs, rest, hb, h => by
    obtain ⟨h1, h2⟩ := Prod.mk.inj h
    obtain ⟨h3, -⟩ := Prod.mk.inj h2
    rw [← h1, ← h3]
    exact ⟨rfl, rfl⟩
  | k + 1, l, xs, rest, hb, h => by
    rw [manyS] at h
    by_cases he : (manyS P k (l, 0)).2.2 = 0
    · rw [if_pos he] at h
      have e : manyS P k (l, 0) = ((manyS P k (l, 0)).1, ((manyS P k (l, 0)).2.1, 0)) := Prod.ext rfl (Prod.ext rfl he)
      obtain ⟨ih, il⟩ := many_can hP hc k l _ _ hb e
      obtain ⟨h1, h2⟩ := Prod.mk.inj h
      have hp : P ((manyS P k (l, 0)).2.1, 0) = ((P (manyS P k (l, 0)).2).1, (rest, 0)) := by
        have e2 : ((manyS P k (l, 0)).2.1, (0 : Int)) = (manyS P k (l, 0)).2 := Prod.ext rfl he.symm
        rw [e2]
        exact Prod.ext rfl h2
      have := hc _ _ _ (okB_r (ih ▸ hb)) hp
      rw [← h1]
      refine ⟨?_, by rw [List.length_append, il]; rfl⟩
      conv => lhs; rw [ih, this]
      simp
    · rw [if_neg he] at h
      rw [h] at he
      exact absurd rfl he
theorem vec_can : Can vecS vecB := fun l y rest hb h => by
  obtain ⟨v, m, h1, h2⟩ := bind_inv (fun _ => par_ok _ _) h
  obtain ⟨rfl, rfl⟩ := ok_inv h2
  exact all_can par_numZ numZ_can _ _ _ _ hb h1
theorem entS_eq : entS = bindS (smallS 60) fun a => bindS (smallS 8) fun b => bindS numZ fun c => bindS intS fun d => pureS (a, b, c, d) := rfl
theorem cartS_eq' : cartS = bindS vecS fun v => bindS (smallS 400) fun n => bindS (manyS entS n.toNat) fun l => bindS (mustU (rightF v l)) fun _ => okS (v, l) (zeroV, []) := rfl
theorem kdS_eq' : kdS = bindS (textS 20) fun k => bindS cartS fun c => pureS (k, c) := rfl
theorem listS_eq' : listS = bindS (smallS 2000) fun n => manyS kdS n.toNat := rfl
section
attribute [local irreducible] bindS smallS numZ intS pureS manyS vecS mustU okS textS entS
theorem ent_can : Can entS entB := fun l y rest hb h => by
  rw [entS_eq] at h
  obtain ⟨a, m1, h1, g1⟩ := bind_inv (fun _ => par_bind (par_small _) fun _ => par_bind par_numZ fun _ => par_bind par_int fun _ => par_pure _) h
  clear h
  obtain ⟨rfl, -, -⟩ := small_can _ _ _ hb h1
  have hb1 := okB_r hb
  clear hb
  obtain ⟨b, m2, h2, g2⟩ := bind_inv (fun _ => par_bind par_numZ fun _ => par_bind par_int fun _ => par_pure _) g1
  clear g1
  obtain ⟨rfl, -, -⟩ := small_can _ _ _ hb1 h2
  have hb2 := okB_r hb1
  clear hb1
  obtain ⟨c, m3, h3, g3⟩ := bind_inv (fun _ => par_bind par_int fun _ => par_pure _) g2
  clear g2
  obtain rfl := numZ_can _ _ _ hb2 h3
  have hb3 := okB_r hb2
  clear hb2
  obtain ⟨d, m4, h4, g4⟩ := bind_inv (fun _ => par_pure _) g3
  clear g3
  obtain rfl := int_can _ _ _ hb3 h4
  obtain ⟨rfl, rfl⟩ := pure_inv g4
  unfold entB
  simp only [List.append_assoc]
theorem numI_toNat {n : Int} {k : Nat} (h : k = n.toNat) : numI n = numB k := by rw [h]; rfl
end
section
attribute [local irreducible] bindS smallS numZ intS pureS manyS vecS mustU okS textS entS cartS
theorem cart_can : Can cartS cartB := fun l y rest hb h => by
  rw [cartS_eq'] at h
  obtain ⟨v, m1, h1, g1⟩ := bind_inv (fun _ => par_bind (par_small _) fun _ => par_bind (par_many par_ent _) fun _ => par_bind (par_must _) fun _ => par_ok _ _) h
  clear h
  obtain rfl := vec_can _ _ _ hb h1
  have hb1 := okB_r hb
  clear hb
  obtain ⟨n, m2, h2, g2⟩ := bind_inv (fun _ => par_bind (par_many par_ent _) fun _ => par_bind (par_must _) fun _ => par_ok _ _) g1
  clear g1
  obtain ⟨rfl, -, -⟩ := small_can _ _ _ hb1 h2
  have hb2 := okB_r hb1
  clear hb1
  obtain ⟨xs, m3, h3, g3⟩ := bind_inv (fun _ => par_bind (par_must _) fun _ => par_ok _ _) g2
  clear g2
  obtain ⟨rfl, hl⟩ := many_can par_ent ent_can _ _ _ _ hb2 h3
  obtain ⟨u, m4, h4, g4⟩ := bind_inv (fun _ => par_ok _ _) g3
  clear g3
  obtain ⟨-, rfl⟩ := must_inv h4
  obtain ⟨rfl, rfl⟩ := ok_inv g4
  unfold cartB
  dsimp only
  rw [numI_toNat hl]
  simp only [List.append_assoc]
theorem kd_can : Can kdS kdB := fun l y rest hb h => by
  rw [kdS_eq'] at h
  obtain ⟨k, m1, h1, g1⟩ := bind_inv (fun _ => par_bind par_cart fun _ => par_pure _) h
  clear h
  obtain rfl := text_can _ _ _ hb h1
  have hb1 := okB_r hb
  clear hb
  obtain ⟨c, m2, h2, g2⟩ := bind_inv (fun _ => par_pure _) g1
  clear g1
  obtain rfl := cart_can _ _ _ hb1 h2
  obtain ⟨rfl, rfl⟩ := pure_inv g2
  unfold kdB
  simp only [List.append_assoc]
theorem list_can : Can listS listB := fun l y rest hb h => by
  rw [listS_eq'] at h
  obtain ⟨n, m1, h1, g1⟩ := bind_inv (fun _ => par_many par_kd _) h
  clear h
  obtain ⟨rfl, -, -⟩ := small_can _ _ _ hb h1
  have hb1 := okB_r hb
  clear hb
  obtain ⟨rfl, hl⟩ := many_can par_kd kd_can _ _ _ _ hb1 g1
  unfold listB
  rw [numI_toNat hl]
  simp only [List.append_assoc]
end
/-- a list of carts is read of its bytes alone -/
theorem readL_can {b : List Nat} {L : List Kd} (hb : okB b) (h : readL b = (L, 0)) : b = listB L ∧ keysF L = true := by
  unfold readL at h
  split at h
  · have := congrArg Prod.snd h
    exact absurd (show (3 : Int) = 0 from this) (by decide)
  · rename_i hn
    have he : endS (listS (b, 0)).2 = 0 := by
      by_cases q : endS (listS (b, 0)).2 = 0
      · exact q
      · exact absurd (.inl q) hn
    have hk : keysF (listS (b, 0)).1 = true := by
      cases q : keysF (listS (b, 0)).1 with
      | true => rfl
      | false => exact absurd (.inr q) hn
    have hL : (listS (b, 0)).1 = L := congrArg Prod.fst h
    have hz : (listS (b, 0)).2.2 = 0 := by
      unfold endS at he
      by_cases q : (listS (b, 0)).2.2 ≠ 0
      · rw [if_pos q] at he; exact absurd he q
      · exact Decidable.not_not.1 q
    have hr : (listS (b, 0)).2.1 = [] := by
      unfold endS at he
      rw [if_neg (fun q => q hz)] at he
      by_cases q : 0 < (listS (b, 0)).2.1.length
      · rw [if_pos q] at he; exact absurd he (by decide)
      · exact List.eq_nil_of_length_eq_zero (by omega)
    have e : listS (b, 0) = (L, ([], 0)) := Prod.ext hL (Prod.ext hr hz)
    have := list_can _ _ _ hb e
    rw [List.append_nil] at this
    exact ⟨this, by rw [← hL]; exact hk⟩
end Go.Proofs.YtclcfjejpogdlaaGreat.Wi
