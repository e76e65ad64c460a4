/- THE ABSTRACT WALK, part 31: a call to which a function's value is handed that captured a variable with a pointer to an own object: both stay while it lasts. Nothing here speaks of a program. -/
import Derived.Test.YtbfjcohocedoaaaKo
namespace Go.Aw
open Go Go.RowKit
set_option linter.unusedVariables false
set_option linter.unusedSimpArgs false
/-- an object whose content hangs on no block that stays -/
def MV (mo : MO) : Prop := ∀ μ X Y m fp, X.w = Y.w → mo.holds μ X m fp → mo.holds μ Y m fp
theorem MV.buf {ty es : Nat} {α : Type} {l : List α} {f : α → List Value} : MV (.buf ty es (l.map fun x => (f x).map PVal.v)) := by
  rintro μ X Y m fp hw ⟨h1, h2, h3, h4⟩
  refine ⟨h1, h2, h3, ?_⟩
  rcases h4 with h4 | ⟨b, arr, k1, k2, k3, k4, k5⟩
  · exact .inl h4
  · refine .inr ⟨b, arr, k1, k2, by rw [← hw]; exact k3, k4, fun i row hr => ⟨(k5 i row hr).1, fun j p hp => ?_⟩⟩
    obtain ⟨c, hc, hh⟩ := (k5 i row hr).2 j p hp
    refine ⟨c, hc, ?_⟩
    rw [List.getElem?_map] at hr
    cases hx : l[i]? with
    | none => rw [hx] at hr; cases hr
    | some x =>
      rw [hx] at hr; simp at hr; subst hr
      rw [List.getElem?_map] at hp
      cases hy : (f x)[j]? with
      | none => rw [hy] at hp; cases hp
      | some y => rw [hy] at hp; simp at hp; subst hp; exact hh
theorem MO.holds.fp {μ : Mu} {X : Wd} {ty : TypeId} {cs : List AC} {m : Option Nat × Nat} {fp : List Nat} (h : (MO.box ty cs).holds μ X m fp) : ∃ b, m.1 = some b ∧ fp = [b] := by
  obtain ⟨b, arr, h1, h2, _⟩ := h; exact ⟨b, h1, h2⟩
theorem ocat_lend {P : Program} {f : FuncId} {c g n len es o3 g3 ty3 oR gR tyR fc : Nat} {mo mo1 : MO} {ps post : List PVal} {r : AV} (hc3 : c ≠ o3) (hcR : c ≠ oR) (h3R : o3 ≠ oR) (hr : ∀ μ X Y v, X.w = Y.w → r.holds μ X v → r.holds μ Y v) (hmv : MV mo1)
    (h : OCAt P f [.o (.osl c g es 0 len), .p (.fnv fc (.bx [.bx ps 0] 0 :: post))] [(c, (n, some mo))] [] r [(c, (n, some mo1))]) :
    OCAt P f [.o (.osl c g es 0 len), .o (.fn fc o3 g3 [] post)] [(c, (n, some mo)), (o3, (g3 + 1, some (.box ty3 [.ptr oR gR 0]))), (oR, (gR + 1, some (.box tyR (ps.map .p))))] [] r [(c, (n, some mo1)), (o3, (g3 + 1, some (.box ty3 [.ptr oR gR 0]))), (oR, (gR + 1, some (.box tyR (ps.map .p))))] := by
  intro w G mem vs ho hl hf ha
  have hmc := hl (c, (n, some mo)) (by simp)
  have hm3 := hl (o3, (g3 + 1, some (.box ty3 [.ptr oR gR 0]))) (by simp)
  have hmR := hl (oR, (gR + 1, some (.box tyR (ps.map .p)))) (by simp)
  simp only at hmc hm3 hmR
  obtain ⟨v0, vs1, rfl, hv0, ha1⟩ := ha.cons_inv
  obtain ⟨v1, vs2, rfl, hv1, ha2⟩ := ha1.cons_inv
  obtain rfl := ha2.nil_inv
  obtain ⟨q3, m3, e31, e32, b3, arr3, e33, e34, e35, e36⟩ := ho.mem o3 _ _ hm3
  obtain rfl : g3 = q3 := by omega
  obtain ⟨qR, mR, eR1, eR2, bR, arrR, eR3, eR4, eR5, eR6⟩ := ho.mem oR _ _ hmR
  obtain rfl : gR = qR := by omega
  obtain ⟨pv, pvs, rfl, hpv, hpvs⟩ := e36.cons_inv
  obtain rfl := hpvs.nil_inv
  obtain ⟨bR', cR, k1, rfl⟩ := hpv
  rw [eR2] at k1
  obtain ⟨mR1, mR2⟩ := mR
  simp only [Option.some.injEq, Prod.mk.injEq] at k1
  simp only at eR3
  obtain ⟨k1, _⟩ := k1
  rw [eR3] at k1
  obtain rfl := Option.some.inj k1
  obtain ⟨us0, us, b3', c3, k2, rfl, k3, k4⟩ := hv1
  obtain rfl := k3.nil_inv
  rw [e32] at k2
  obtain ⟨m31, m32⟩ := m3
  simp only [Option.some.injEq, Prod.mk.injEq] at k2
  simp only at e33
  rw [k2.1] at e33
  obtain rfl := Option.some.inj e33
  -- what stays for the while
  obtain ⟨S1, hS1⟩ : ∃ S1 : Nat → Prop, S1 = fun b => G.S b ∨ b = b3' ∨ b = bR := ⟨_, rfl⟩
  obtain ⟨φ1, hφ1⟩ : ∃ φ1 : Nat → List Nat, φ1 = fun x => if x = o3 ∨ x = oR then [] else G.φ x := ⟨_, rfl⟩
  obtain ⟨mem1, hmem1⟩ : ∃ mem1 : Nat → Nat × Option MO, mem1 = fun x => if x = o3 ∨ x = oR then ((mem x).1, none) else mem x := ⟨_, rfl⟩
  have hφs : ∀ {x b}, b ∈ φ1 x → b ∈ G.φ x ∧ x ≠ o3 ∧ x ≠ oR := fun {x b} hb => by
    rw [hφ1] at hb
    by_cases hx : x = o3 ∨ x = oR
    · simp [hx] at hb
    · simp only [hx, if_false] at hb
      exact ⟨hb, fun e => hx (.inl e), fun e => hx (.inr e)⟩
  have i3 : b3' ∈ G.φ o3 := by rw [e34]; simp
  have iR : bR ∈ G.φ oR := by rw [eR4]; simp
  have hle : Wd.le ⟨w, G.S⟩ ⟨w, S1⟩ := fun b hb => ⟨by rw [hS1]; exact .inl hb, rfl⟩
  have ho1 : ObjG mem1 w ⟨G.μ, S1, φ1⟩ := {
    gens := fun x => by
      rw [hmem1]
      by_cases hx : x = o3 ∨ x = oR
      · simp only [hx, if_true]; exact ho.gens x
      · simp only [hx, if_false]; exact ho.gens x
    mem := fun x k mx hx => by
      rw [hmem1] at hx
      by_cases hxx : x = o3 ∨ x = oR
      · simp [hxx] at hx
      · simp only [hxx, if_false] at hx
        obtain ⟨q, m, j1, j2, j3⟩ := ho.mem x k mx hx
        refine ⟨q, m, j1, j2, ?_⟩
        simp only [hφ1, hxx, if_false]
        exact j3.mono (Mu.le.refl _) hle fun _ _ => rfl
    apart := fun x y b hxy hx hy => ho.apart x y b hxy (hφs hx).1 (hφs hy).1
    stab := fun x b hb hs => by
      obtain ⟨j1, j2, j3⟩ := hφs hb
      rw [hS1] at hs
      rcases hs with hs | rfl | rfl
      · exact ho.stab x b j1 hs
      · exact ho.apart x o3 _ j2 j1 i3
      · exact ho.apart x oR _ j3 j1 iR
    own := fun x b hb => ho.own x b (hφs hb).1
    sbd := fun b hb => by
      rw [hS1] at hb
      rcases hb with hb | rfl | rfl
      · exact ho.sbd b hb
      · exact ho.own o3 _ i3
      · exact ho.own oR _ iR }
  have hbx : (PVal.bx ps 0).holds ⟨w, S1⟩ (.pointer (some ⟨bR, 0, none⟩)) := ⟨bR, arrR, tyR, rfl, by rw [hS1]; exact .inr (.inr rfl), eR5, (all2_ac.1 eR6).mono fun p _ hp => p.mono hle hp⟩
  have hargs : All2 (AV.holds G.μ ⟨w, S1⟩) [.o (.osl c g es 0 len), .p (.fnv fc (.bx [.bx ps 0] 0 :: post))] [v0, Value.func (.func fc) #[] ([] ++ Value.pointer (some ⟨b3', 0, none⟩) :: us).toArray] := by
    refine .cons (hv0.mono (Mu.le.refl _) hle) (.cons ?_ .nil)
    refine ⟨Value.pointer (some ⟨b3', 0, none⟩) :: us, rfl, .cons ⟨b3', [Value.pointer (some ⟨bR, 0, none⟩)], ty3, rfl, by rw [hS1]; exact .inr (.inl rfl), e35, .cons hbx .nil⟩ (k4.mono fun p _ hp => p.mono hle hp)⟩
  have n3 : ∀ {x}, inL [(c, (n, some mo1))] x → x = c := fun {x} hx => by
    simp only [inL, kIn, Bool.or_false] at hx
    exact Nat.eq_of_beq_eq_true hx
  have hcall := h w ⟨G.μ, S1, φ1⟩ mem1 _ ho1 (fun p hp => by
    simp only [List.mem_singleton] at hp; subst hp
    rw [hmem1]; simp only [hc3, hcR, or_self, if_false]; exact hmc) (fun p hp => by cases hp) hargs
  refine hcall.mono ?_
  rintro e w' ⟨v, G', rfl, jr, jo, j1, j2, j3, j4, j5⟩
  simp only at j1 j2 j3 j4 j5
  have hout : ∀ {x}, x ≠ c → kIn [(c, (n, some mo1))] x = false := fun {x} hx => by
    simp only [kIn, Bool.or_false]
    exact Bool.eq_false_iff.2 fun hb => hx (Nat.eq_of_beq_eq_true hb)
  have hfc : ∀ {b}, (∃ o, inL [(c, (n, some mo1))] o ∧ b ∈ φ1 o) → b ∈ G.φ c := fun {b} ⟨o, k1, k2⟩ => by
    obtain rfl := n3 k1; exact (hφs k2).1
  have hold : ∀ b, b < w.heap.size → b ∉ G.φ c → w'.heap[b]? = w.heap[b]? := fun b hb hn => j5.block b hb fun hx => hn (hfc hx)
  have hle' : Wd.le ⟨w, G.S⟩ ⟨w', fun b => G'.S b ∧ b ≠ b3' ∧ b ≠ bR⟩ := fun b hb => ⟨⟨j1 b (by rw [hS1]; exact .inl hb), fun e => ho.stab o3 b (by rw [e]; exact i3) hb, fun e => ho.stab oR b (by rw [e]; exact iR) hb⟩, hold b (ho.sbd b hb) fun hx => ho.stab c b hx hb⟩
  -- the footprints behind the call
  have hφc : ∀ {b}, b ∈ G'.φ c → b ∈ G.φ c ∨ w.heap.size ≤ b := fun {b} hb => by
    rcases j3 c b hb with k | k | k
    · exact .inl (hφs k).1
    · exact .inr k
    · exact .inl (hfc k)
  refine ⟨v, ⟨G'.μ, fun b => G'.S b ∧ b ≠ b3' ∧ b ≠ bR, fun x => if x = c then G'.φ c else G.φ x⟩, rfl, hr _ ⟨w', G'.S⟩ _ _ rfl jr, ?_, ?_, ?_, ?_, j4, ?_⟩
  · have hput : ∀ x, x ≠ c → putsM mem [(c, (n, some mo1)), (o3, (g3 + 1, some (.box ty3 [.ptr oR gR 0]))), (oR, (gR + 1, some (.box tyR (ps.map .p))))] x = mem x := fun x hx => by
      simp only [putsM, hx, if_false]
      by_cases h3 : x = o3
      · subst h3; simp [hm3]
      · by_cases hR : x = oR
        · subst hR; simp [h3, hmR]
        · simp [h3, hR]
    have hputc : putsM mem [(c, (n, some mo1)), (o3, (g3 + 1, some (.box ty3 [.ptr oR gR 0]))), (oR, (gR + 1, some (.box tyR (ps.map .p))))] c = (n, some mo1) := by simp [putsM]
    have hput1 : putsM mem1 [(c, (n, some mo1))] c = (n, some mo1) := by simp [putsM]
    exact {
      gens := fun x => by
        by_cases hx : x = c
        · subst hx; rw [hputc]; have := jo.gens x; rw [hput1] at this; exact this
        · rw [hput x hx]
          have := jo.gens x
          rw [putsM_out _ _ _ (hout hx), hmem1] at this
          by_cases hxx : x = o3 ∨ x = oR
          · simpa [hxx] using this
          · simpa [hxx] using this
      mem := fun x k mx hx => by
        by_cases hxc : x = c
        · subst hxc
          rw [hputc] at hx
          obtain ⟨q, m, k1, k2, k3⟩ := jo.mem x k mx (by rw [hput1]; exact hx)
          simp only [Prod.mk.injEq, Option.some.injEq] at hx
          obtain ⟨rfl, rfl⟩ := hx
          refine ⟨q, m, k1, k2, ?_⟩
          simp only [if_true]
          exact hmv _ ⟨w', G'.S⟩ _ _ _ rfl k3
        · rw [hput x hxc] at hx
          obtain ⟨q, m, k1, k2, k3⟩ := ho.mem x k mx hx
          refine ⟨q, m, k1, j4 _ _ _ k2, ?_⟩
          simp only [hxc, if_false]
          exact k3.mono j4 hle' fun b hb => hold b (ho.own x b hb) fun hc => ho.apart x c b hxc hb hc
      apart := fun x y b hxy hx hy => by
        have key : ∀ {y : Nat}, c ≠ y → b ∈ G'.φ c → b ∈ G.φ y → False := fun {y} hcy hb hq => by
          rcases hφc hb with k | k
          · exact ho.apart c y b hcy k hq
          · have := ho.own y b hq; omega
        by_cases hxc : x = c <;> by_cases hyc : y = c <;> simp only [hxc, hyc, if_true, if_false] at hx hy
        · exact hxy (hxc.trans hyc.symm)
        · exact key (y := y) (fun e => hyc e.symm) hx hy
        · exact key (y := x) (fun e => hxc e.symm) hy hx
        · exact ho.apart x y b hxy hx hy
      stab := fun x b hb hs => by
        by_cases hxc : x = c
        · simp only [hxc, if_true] at hb
          exact jo.stab c b hb hs.1
        · simp only [hxc, if_false] at hb
          rcases j2 b hs.1 with k | k | k
          · rw [hS1] at k
            rcases k with k | k | k
            · exact ho.stab x b hb k
            · exact hs.2.1 k
            · exact hs.2.2 k
          · have := ho.own x b hb; omega
          · exact ho.apart x c b hxc hb (hfc k)
      own := fun x b hb => by
        by_cases hxc : x = c
        · simp only [hxc, if_true] at hb; exact jo.own c b hb
        · simp only [hxc, if_false] at hb; exact Nat.lt_of_lt_of_le (ho.own x b hb) j5.size
      sbd := fun b hb => jo.sbd b hb.1 }
  · exact fun b hb => (hle' b hb).1
  · rintro b ⟨hb, n1, n2⟩
    rcases j2 b hb with k | k | k
    · rw [hS1] at k
      rcases k with k | k | k
      · exact .inl k
      · exact absurd k n1
      · exact absurd k n2
    · exact .inr (.inl k)
    · exact .inr (.inr ⟨c, by simp [inL, kIn], hfc k⟩)
  · intro x b hb
    by_cases hxc : x = c
    · simp only [hxc, if_true] at hb
      subst hxc
      rcases hφc hb with k | k
      · exact .inl k
      · exact .inr (.inl k)
    · simp only [hxc, if_false] at hb; exact .inl hb
  · exact ⟨j5.os, j5.tape, j5.output, j5.size, fun k hk hn => hold k hk fun hx => hn ⟨c, by simp [inL, kIn], hx⟩⟩
/-- of all that is known just this goes on: what follows reads its slots faster -/
theorem aws_sm {C : Ctx} {σ : St} {k : List Code} {c : Code} {Q : Exit → St → Prop} (e : List (Nat × AV)) (m : List (Nat × (Nat × Option MO))) (he : Knows σ.env e) (hm : Knows σ.mem m) (h : ∀ ν : Nat → Nat, AWs C (c :: k) Q ⟨ovl e fun _ => .un, ovl m fun o => (ν o, none)⟩) : AWs C (c :: k) Q σ := by
  intro a w ⟨G, hG⟩
  have ke : ∀ (e : List (Nat × AV)), Knows σ.env e → ∀ t, ovl e (fun _ => AV.un) t = σ.env t ∨ ovl e (fun _ => AV.un) t = .un := by
    intro e he
    induction he with
    | nil => exact fun t => .inr rfl
    | cons hv hl ih =>
      intro t
      simp only [ovl]
      split
      · rename_i ht; rw [ht]; exact .inl hv.symm
      · exact ih t
  have km : ∀ (m : List (Nat × (Nat × Option MO))), Knows σ.mem m → ∀ o, ovl m (fun o => ((σ.mem o).1, (none : Option MO))) o = σ.mem o ∨ ovl m (fun o => ((σ.mem o).1, (none : Option MO))) o = ((σ.mem o).1, none) := by
    intro m hm
    induction hm with
    | nil => exact fun t => .inr rfl
    | cons hv hl ih =>
      intro t
      simp only [ovl]
      split
      · rename_i ht; rw [ht]; exact .inl hv.symm
      · exact ih t
  refine h (fun o => (σ.mem o).1) a w ⟨G, ?_⟩
  exact {
    size := hG.size
    defers := hG.defers
    dnod := hG.dnod
    mle := hG.mle
    env := fun t => by
      show (ovl e (fun _ => AV.un) t).holds _ _ _
      rcases ke e he t with k | k <;> rw [k]
      · exact hG.env t
      · trivial
    gens := fun o => by
      show _ = (ovl m (fun o => ((σ.mem o).1, (none : Option MO))) o).1
      rcases km m hm o with k | k <;> rw [k]
      · exact hG.gens o
      · exact hG.gens o
    mem := fun o n mo ho => by
      have ho : ovl m (fun o => ((σ.mem o).1, (none : Option MO))) o = (n, some mo) := ho
      rcases km m hm o with k | k <;> rw [k] at ho
      · exact hG.mem o n mo ho
      · simp at ho
    apart := hG.apart
    stab := hG.stab
    own := hG.own
    sbd := hG.sbd
    ssub := hG.ssub
    fr := hG.fr }
end Go.Aw
