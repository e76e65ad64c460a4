/- THE ABSTRACT WALK, part 33: slices in a variable's cells begin to grow, and come to rest. Nothing here speaks of a program. -/
import Derived.Test.YtacofbbclmbbeaaKl
namespace Go.Aw
open Go Go.RowKit
set_option linter.unusedVariables false
set_option linter.unusedSimpArgs false
theorem All2.turn {α β : Type} {R : α → β → Prop} {l : List α} {m : List β} (h : All2 R l m) {k : Nat} {a : α} (ha : ∀ b, m[k]? = some b → R a b) : All2 R (l.set k a) m :=
  ⟨by simpa using h.1, fun i x y hx hy => by
    by_cases e : k = i
    · subst e
      rw [List.getElem?_set] at hx
      rw [if_pos rfl] at hx
      split at hx
      · obtain rfl := Option.some.inj hx; exact ha _ hy
      · cases hx
    · rw [List.getElem?_set_ne e] at hx; exact h.2 i x y hx hy⟩
/-- a nil slice among a variable's cells, as one that grows -/
theorem says_nil_at {C : Ctx} {σ : St} {p np tyb o n ty es k : Nat} {cs ds : List AC} {mo : Option MO} (hp : σ.mem p = (np, some (.box tyb cs))) (hk : cs[k]? = some (.p (.v (.slice none 0 0)))) (hds : cs.set k (.osl o n es 0 0) = ds) (hm : σ.mem o = (n, mo)) (hne : p ≠ o) (hes : 0 < es) :
    Says C σ ((σ.put o (n + 1, some (.buf ty es []))).put p (np, some (.box tyb ds))) := by
  subst hds
  rintro a w ⟨G, h⟩
  have hlen : (G.μ o).length = n := by have := h.gens o; rw [hm] at this; exact this
  have hu := h.upd (o := o) (n' := n + 1) (mo' := some (.buf ty es [])) (μo := G.μ o ++ [(none, 0)]) (fp' := []) (w' := w) (fun g x hx => by
    rw [List.getElem?_append_left (List.getElem?_eq_some_iff.1 hx).1]; exact hx) (by simp [hlen]) rfl .same rfl (Nat.le_refl _) (fun _ _ _ => rfl) (fun b hb => by simp at hb) (fun mo hmo => by
      obtain rfl := Option.some.inj hmo
      exact ⟨n, (none, 0), rfl, by simp [hlen], hes, by simp [maxLen], Nat.le_refl _, .inl ⟨rfl, rfl, rfl⟩⟩)
  refine ⟨_, hu.remem (o := p) (n := np) (mo := .box tyb cs) (by simp [St.put, hne, hp]) ?_⟩
  rintro m ⟨b, arr, h1, h2, h3, h4⟩
  refine ⟨b, arr, h1, h2, h3, h4.turn fun v hv => ?_⟩
  obtain ⟨v', hv', hh⟩ := h4.get hk
  rw [hv] at hv'; obtain rfl := Option.some.inj hv'
  obtain ⟨rfl, _⟩ := hh
  exact ⟨none, 0, by simp [hlen], by simp, by simp⟩
/-- a nil slice among a variable's cells, as one that stays -/
theorem says_nils_at {C : Ctx} {σ : St} {p np tyb es k : Nat} {cs ds : List AC} {ex : Bool} (hp : σ.mem p = (np, some (.box tyb cs))) (hk : cs[k]? = some (.p (.v (.slice none 0 0)))) (hds : cs.set k (.p (.sl es [] ex)) = ds) :
    Says C σ (σ.put p (np, some (.box tyb ds))) := by
  subst hds
  rintro a w ⟨G, h⟩
  refine ⟨_, h.remem (o := p) (n := np) (mo := .box tyb cs) hp ?_⟩
  rintro m ⟨b, arr, h1, h2, h3, h4⟩
  refine ⟨b, arr, h1, h2, h3, h4.turn fun v hv => ?_⟩
  obtain ⟨v', hv', hh⟩ := h4.get hk
  rw [hv] at hv'; obtain rfl := Option.some.inj hv'
  exact ⟨none, 0, hh.1, Nat.le_refl _, by simp [maxLen], fun _ => rfl, rfl, rfl⟩
/-- an own slice among a variable's cells comes to rest -/
theorem says_frz_at {C : Ctx} {σ : St} {p np tyb o g n ty es k len : Nat} {cs ds : List AC} {rows : List (List PVal)} (hp : σ.mem p = (np, some (.box tyb cs))) (hk : cs[k]? = some (.osl o g es 0 len)) (hds : cs.set k (.p (.sl es rows false)) = ds) (hm : σ.mem o = (n, some (.buf ty es rows))) (hn : n = g + 1) (hl : len = rows.length) (hne : p ≠ o) :
    Says C σ ((σ.put o (n, some (.frz ty es rows))).put p (np, some (.box tyb ds))) := by
  subst hds hn hl
  rintro a w ⟨G, h⟩
  obtain ⟨g', m, hg, hmm, hes, hmax, hrl, hh⟩ := h.mem o _ _ hm
  obtain rfl : g = g' := by omega
  have hh' : (m.1 = none ∧ m.2 = 0) ∨ ∃ b arr, m.1 = some b ∧ (G.S b ∨ b ∈ G.φ o) ∧ w.heap[b]? = some (.cells arr ty (0, 0)) ∧ RowsAt ⟨w, fun b => G.S b ∨ b ∈ G.φ o⟩ arr 0 es rows := by
    rcases hh with ⟨h3, h4, _⟩ | ⟨b, arr, h3, h4, h5, h6, h7⟩
    · exact .inl ⟨h3, h4⟩
    · refine .inr ⟨b, arr, h3, .inr (by rw [h4]; simp), h5, fun i row hr => ⟨(h7 i row hr).1, fun j p hp => ?_⟩⟩
      obtain ⟨c, hc, hp'⟩ := (h7 i row hr).2 j p hp
      exact ⟨c, hc, p.mono (x := ⟨w, G.S⟩) (fun b hb => ⟨.inl hb, rfl⟩) hp'⟩
  have hf := h.freeze (o := o) (mo' := some (.frz ty es rows)) hm (fun x hx => by
    obtain rfl := Option.some.inj hx
    exact ⟨g, m, rfl, hmm, rfl, hmax, hrl, hh'⟩)
  refine ⟨_, hf.remem (o := p) (n := np) (mo := .box tyb cs) (by simp [St.put, hne, hp]) ?_⟩
  rintro q ⟨b, arr, h1, h2, h3, h4⟩
  refine ⟨b, arr, h1, h2, h3, h4.turn fun v hv => ?_⟩
  obtain ⟨v', hv', m', c, k1, k2, k3⟩ := h4.get hk
  rw [hv] at hv'; obtain rfl := Option.some.inj hv'
  have e := k1.symm.trans hmm
  obtain rfl := Option.some.inj e
  exact sl_of_buf (μ := G.μ) (ty := ty) hmax hrl hh' (by simpa using k3)
end Go.Aw
