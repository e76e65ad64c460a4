/- THE ABSTRACT WALK, part 8: loops by what turns in them. -/
import Derived.Test.YtbhcdkhejgkhaaaCoreG
namespace Go.Aw
open Go Go.RowKit
set_option linter.unusedVariables false
set_option linter.unusedSimpArgs false

def ovl {α : Type} : List (Nat × α) → (Nat → α) → Nat → α
  | [], f, t => f t
  | (k, v) :: l, f, t => if t = k then v else ovl l f t
def memb : List Nat → Nat → Bool
  | [], _ => false
  | k :: l, t => Nat.beq t k || memb l t

/-- σ, but for the slots W and the objects M: of these just what e and m say is known -/
def St.fr (σ : St) (W : List Nat) (β : Nat → AV) (e : List (Nat × AV)) (M : List Nat) (γ : Nat → Nat × Option MO) (m : List (Nat × (Nat × Option MO))) : St where
  env := ovl e fun t => bif memb W t then β t else σ.env t
  mem := ovl m fun t => bif memb M t then γ t else σ.mem t

def Fr' (σ : St) (W : List Nat) (e : List (Nat × AV)) (M : List Nat) (m : List (Nat × (Nat × Option MO))) (τ : St) : Prop := ∃ β γ, τ = σ.fr W β e M γ m

/-- τ is as σ but for the slots W and the objects M -/
structure Agr (σ : St) (W M : List Nat) (τ : St) : Prop where
  env : ∀ t, memb W t = false → τ.env t = σ.env t
  mem : ∀ t, memb M t = false → τ.mem t = σ.mem t
theorem Agr.refl {σ : St} {W M : List Nat} : Agr σ W M σ := ⟨fun _ _ => rfl, fun _ _ => rfl⟩
theorem Agr.set {σ τ : St} {W M : List Nat} {d : Nat} {v : AV} (hd : memb W d = true) (h : Agr σ W M τ) : Agr σ W M (τ.set (some d) v) :=
  ⟨fun t ht => by
    have : t ≠ d := fun e => by rw [e, hd] at ht; cases ht
    simp only [St.set, this, if_false]; exact h.env t ht, h.mem⟩
theorem Agr.app {σ τ : St} {W M : List Nat} {d : Nat} {v : AV} (hd : memb W d = true) (h : Agr σ W M τ) : Agr σ W M ((⟨v, []⟩ : Eff).app (some d) τ) := h.set hd
theorem Agr.put {σ τ : St} {W M : List Nat} {o : Nat} {m : Nat × Option MO} (ho : memb M o = true) (h : Agr σ W M τ) : Agr σ W M (τ.put o m) :=
  ⟨h.env, fun t ht => by
    have : t ≠ o := fun e => by rw [e, ho] at ht; cases ht
    simp only [St.put, this, if_false]; exact h.mem t ht⟩
theorem Agr.appm {σ τ : St} {W M : List Nat} {d o : Nat} {v : AV} {m : Nat × Option MO} (hd : memb W d = true) (ho : memb M o = true) (h : Agr σ W M τ) : Agr σ W M ((⟨v, [(o, m)]⟩ : Eff).app (some d) τ) := (h.put ho).set hd
theorem Agr.appn {σ τ : St} {W M : List Nat} {o : Nat} {v : AV} {m : Nat × Option MO} (ho : memb M o = true) (h : Agr σ W M τ) : Agr σ W M ((⟨v, [(o, m)]⟩ : Eff).app none τ) := h.put ho
theorem Agr.appz {σ τ : St} {W M : List Nat} {v : AV} (h : Agr σ W M τ) : Agr σ W M ((⟨v, []⟩ : Eff).app none τ) := h
theorem Agr.puts {σ τ : St} {W M : List Nat} : ∀ {l : List (Nat × (Nat × Option MO))}, l.all (fun p => memb M p.1) = true → Agr σ W M τ → Agr σ W M (τ.puts l)
  | [], _, h => h
  | (o, m) :: l, ho, h => by
    simp only [List.all_cons, Bool.and_eq_true] at ho
    exact (Agr.puts ho.2 h).put ho.1
theorem Agr.appg {σ τ : St} {W M : List Nat} {e : Eff} {d : Nat} (hd : memb W d = true) (ho : e.obj.all (fun p => memb M p.1) = true) (h : Agr σ W M τ) : Agr σ W M (e.app (some d) τ) := (Agr.puts ho h).set hd
theorem Agr.appgn {σ τ : St} {W M : List Nat} {e : Eff} (ho : e.obj.all (fun p => memb M p.1) = true) (h : Agr σ W M τ) : Agr σ W M (e.app none τ) := Agr.puts ho h
theorem ovl_mem {α : Type} {e : List (Nat × α)} {f g : Nat → α} {t : Nat} (h : f t = g t) : ovl e f t = ovl e g t := by
  induction e with
  | nil => exact h
  | cons p e ih => obtain ⟨k, v⟩ := p; simp only [ovl]; split; rfl; exact ih
theorem Agr.fr {σ : St} {W W' M M' : List Nat} {β : Nat → AV} {e : List (Nat × AV)} {γ : Nat → Nat × Option MO} {m : List (Nat × (Nat × Option MO))} {σ' : St} (h : Agr σ W M σ') (hW : ∀ t, memb W' t = true → memb W t = true) (hM : ∀ t, memb M' t = true → memb M t = true)
    (he : e.all (fun p => memb W p.1) = true) (hm : m.all (fun p => memb M p.1) = true) : Agr σ W M (σ'.fr W' β e M' γ m) := by
  have key : ∀ {α : Type} (l : List (Nat × α)) (f : Nat → α) (W : List Nat) (t : Nat), l.all (fun p => memb W p.1) = true → memb W t = false → ovl l f t = f t := by
    intro α l f W t hl ht
    induction l with
    | nil => rfl
    | cons p l ih =>
      obtain ⟨k, v⟩ := p
      simp only [List.all_cons, Bool.and_eq_true] at hl
      have : t ≠ k := fun e => by rw [e, hl.1] at ht; cases ht
      simp only [ovl, this, if_false]; exact ih hl.2
  refine ⟨fun t ht => ?_, fun t ht => ?_⟩
  · simp only [St.fr]
    rw [key e _ W t he ht]
    have : memb W' t = false := by
      cases hq : memb W' t with
      | false => rfl
      | true => rw [hW t hq] at ht; cases ht
    rw [this]; exact h.env t ht
  · simp only [St.fr]
    rw [key m _ M t hm ht]
    have : memb M' t = false := by
      cases hq : memb M' t with
      | false => rfl
      | true => rw [hM t hq] at ht; cases ht
    rw [this]; exact h.mem t ht
theorem Agr.fr0 {σ : St} {W M : List Nat} {β : Nat → AV} {e : List (Nat × AV)} {γ : Nat → Nat × Option MO} {m : List (Nat × (Nat × Option MO))} (he : e.all (fun p => memb W p.1) = true) (hm : m.all (fun p => memb M p.1) = true) : Agr σ W M (σ.fr W β e M γ m) :=
  Agr.refl.fr (fun _ h => h) (fun _ h => h) he hm

/-- each of these slots is known so -/
inductive Knows {α : Type} (f : Nat → α) : List (Nat × α) → Prop
  | nil : Knows f []
  | cons {k : Nat} {v : α} {l : List (Nat × α)} (h : f k = v) (hl : Knows f l) : Knows f ((k, v) :: l)
theorem Knows.ovl {α : Type} {f g : Nat → α} {W : List Nat} : ∀ {e : List (Nat × α)}, Knows f e → (∀ t, memb W t = false → f t = g t) → ∀ t, Go.Aw.ovl e (fun t => bif memb W t then f t else g t) t = f t
  | [], _, hg, t => by
    simp only [Go.Aw.ovl]
    cases hq : memb W t with
    | true => rfl
    | false => exact (hg t hq).symm
  | (k, v) :: e, h, hg, t => by
    cases h with
    | cons h hl =>
      simp only [Go.Aw.ovl]
      split
      · rename_i ht; rw [ht]; exact h.symm
      · exact Knows.ovl hl hg t

theorem st_eq {s t : St} (h1 : s.env = t.env) (h2 : s.mem = t.mem) : s = t := by
  obtain ⟨a, b⟩ := s; obtain ⟨c, d⟩ := t; cases h1; cases h2; rfl
theorem Fr'.mk {σ τ : St} {W M : List Nat} {e : List (Nat × AV)} {m : List (Nat × (Nat × Option MO))} (h : Agr σ W M τ) (he : Knows τ.env e) (hm : Knows τ.mem m) : Fr' σ W e M m τ := by
  refine ⟨τ.env, τ.mem, ?_⟩
  have h1 : τ.env = (σ.fr W τ.env e M τ.mem m).env := funext fun t => (he.ovl h.env t).symm
  have h2 : τ.mem = (σ.fr W τ.env e M τ.mem m).mem := funext fun t => (hm.ovl h.mem t).symm
  exact st_eq h1 h2

/-- a loop: ι says where one stands; of slots and objects that the body writes (W, M) just e and m are known -/
theorem aws_loopF {ι : Type} {C : Ctx} {Q : Exit → St → Prop} {σ : St} {c : Code} {k : List Code} {id : Nat} (W M : List Nat) (e : ι → List (Nat × AV)) (m : ι → List (Nat × (Nat × Option MO))) (P : ι → Prop) (μ : ι → Nat) (i₀ : ι)
    (h₀ : P i₀) (he : Knows σ.env (e i₀)) (hm : Knows σ.mem (m i₀))
    (round : ∀ i β γ, P i → AWs C [c] (fun x s' => match x with | .normal => ∃ j, μ j < μ i ∧ P j ∧ Fr' σ W (e j) M (m j) s' | x => blk id (AWs C k Q) Q x s') (σ.fr W β (e i) M γ (m i))) : AWs C (.block id (.loop c) :: k) Q σ :=
  aws_loop (fun i s => P i ∧ Fr' σ W (e i) M (m i) s) μ i₀ ⟨h₀, .mk .refl he hm⟩ fun i s ⟨hP, β, γ, hs⟩ => by subst hs; exact round i β γ hP
end Go.Aw
