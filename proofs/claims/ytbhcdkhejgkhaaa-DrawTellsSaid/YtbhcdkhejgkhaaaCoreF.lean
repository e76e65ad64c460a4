/- THE ABSTRACT WALK, part 6: slices of slices, append, make, conversions. -/
import Derived.Test.YtbhcdkhejgkhaaaCoreE
namespace Go.Aw
open Go Go.RowKit
set_option linter.unusedVariables false
set_option linter.unusedSimpArgs false

section ops
variable {C : Ctx} {o : Oper} {σ : St}

theorem run_sb {P : Program} {k : IntKind} {i : Int} {y : Nat} {code : BoundsCode} {w : World} (h0 : 0 ≤ i) (h1 : i ≤ y) : (Instr.sliceBound (.int k i) y code).run P w = .ok i.toNat w := by
  simp [Instr.sliceBound, asIntOf, h0, h1]

/-- a slice of a slice that stays as it is -/
theorem slice_go {T e : TypeId} {x : Operand} {lo hi mx : Option Operand} {sz by_ : Nat} [hT : TI C.P T (.slice e) sz by_] {ke : TK} {sze be : Nat} [he : TI C.P e ke sze be] {rows : List (List PVal)} {ex ex' : Bool} {l h : Nat} (vlo vhi vmx : Option (IntKind × Int))
    (ho : o.op = .slice T x lo hi mx) (hx : σ.look x = .p (.sl sze rows ex)) (hlo : lo.map σ.look = vlo.map fun p => .p (.v (.int p.1 p.2))) (hhi : hi.map σ.look = vhi.map fun p => .p (.v (.int p.1 p.2))) (hmx : mx.map σ.look = vmx.map fun p => .p (.v (.int p.1 p.2)))
    (hb : ∀ cap w, rows.length ≤ cap → (ex = true → cap = rows.length) → ∃ m, (Instr.sliceBounds true rows.length cap (vlo.map fun p => .int p.1 p.2) (vhi.map fun p => .int p.1 p.2) (vmx.map fun p => .int p.1 p.2)).run C.P w = .ok (l, h, m) w ∧ l ≤ h ∧ h ≤ m ∧ m ≤ cap ∧ (ex' = true → m = h))
    (hh : h ≤ rows.length) (hd : dOk C o.dst = true) : LOp C o σ ⟨.p (.sl sze ((rows.drop l).take (h - l)) ex'), []⟩ (fun _ => false) :=
  lop_val hd fun τ a w G hl hm' hr => by
    obtain ⟨base, cap, h1, h2, h3, h4, h5⟩ := look_of hr ((hl x (by simp [ho, Op.operands])).trans hx)
    have opt : ∀ (q : Option Operand) (v : Option (IntKind × Int)), (∀ y, q = some y → y ∈ o.op.operands) → q.map σ.look = v.map (fun p => AV.p (.v (.int p.1 p.2))) → q.map a.eval = v.map fun p => Value.int p.1 p.2 := fun q v hq hv => by
      cases q with
      | none => cases v <;> simp_all
      | some y =>
        cases v with
        | none => simp at hv
        | some p =>
          simp only [Option.map_some, Option.some.injEq] at hv ⊢
          exact val_of hr ((hl y (hq y rfl)).trans hv)
    have e1 := opt lo vlo (fun y hy => by subst hy; simp [ho, Op.operands]) hlo
    have e2 := opt hi vhi (fun y hy => by subst hy; simp [ho, Op.operands]) hhi
    have e3 := opt mx vmx (fun y hy => by subst hy; simp [ho, Op.operands]) hmx
    obtain ⟨d, hdd, hkk⟩ := hT.undd
    have : d = .slice e := by cases d <;> simp [TK.of] at hkk; rw [hkk]
    subst this
    obtain ⟨m, hm, hlh, hhm, hmc, hex⟩ := hb cap w h2 h4
    refine ⟨.slice (if m = l then base else base.map (·.add (l * sze))) (h - l) (m - l), ?_, ?_⟩
    · simp only [execOp, ho, Instr.sliceAt, Sem.run_bind, run_underlying hdd, Result.andThen_ok, Instr.slice, h1, e1, e2, e3, hm, he.run_sizeOf, Sem.run_pure]
    · have hlen : ((rows.drop l).take (h - l)).length = h - l := by simp; omega
      refine ⟨if m = l then base else base.map (·.add (l * sze)), m - l, by rw [hlen], by rw [hlen]; omega, by omega, fun hq => by rw [hlen, hex hq], ?_⟩
      by_cases hml : m = l
      · have hnil : (rows.drop l).take (h - l) = [] := List.eq_nil_of_length_eq_zero (by rw [hlen]; omega)
        simp only [hml, if_true]
        cases base with
        | none => exact ⟨by rw [← hml] at hnil ⊢; exact hnil, by omega⟩
        | some ad =>
          exact .inl hnil
      · simp only [hml, if_false]
        cases base with
        | none =>
          simp only [Option.map_none]
          obtain ⟨k1, k2⟩ := h5
          exact ⟨by simp [k1], by omega⟩
        | some ad =>
          rcases h5 with h5 | ⟨g1, g2, cs, ty, fr, g3, g4⟩
          · exact .inl (by simp [h5])
          simp only [Option.map_some, add_addr' ad g1]
          refine .inr ⟨by first | rfl | trivial, g2, cs, ty, fr, g3, fun i row hrow => ?_⟩
          have hrow' : rows[l + i]? = some row := by
            rw [List.getElem?_take] at hrow
            split at hrow
            · simpa using hrow
            · cases hrow
          refine ⟨(g4 _ _ hrow').1, fun j p hp => ?_⟩
          obtain ⟨c, hc, hcc⟩ := (g4 _ _ hrow').2 j p hp
          exact ⟨c, by rw [← hc]; congr 1; simp only [Nat.add_mul]; omega, hcc⟩

section
variable {T e : TypeId} {x : Operand} {sz by_ : Nat} [hT : TI C.P T (.slice e) sz by_] {ke : TK} {sze be : Nat} [he : TI C.P e ke sze be] {rows : List (List PVal)} {ex : Bool} {kl kh km : IntKind} {l h m : Int} {xl xh xm : Operand}
include hT he
theorem lop_slice_l (ho : o.op = .slice T x (some xl) none none) (hx : σ.look x = .p (.sl sze rows ex)) (hlo : σ.look xl = .p (.v (.int kl l))) (h0 : 0 ≤ l) (h1 : l ≤ rows.length) (hd : dOk C o.dst = true) : LOp C o σ ⟨.p (.sl sze (rows.drop l.toNat) ex), []⟩ (fun _ => false) := by
  have := slice_go (o := o) (hT := hT) (he := he) (σ := σ) (rows := rows) (ex := ex) (ex' := ex) (l := l.toNat) (h := rows.length) (some (kl, l)) none none ho hx (by simp [hlo]) rfl rfl
    (fun cap w hc he' => ⟨cap, by simp [Instr.sliceBounds, run_sb h0 h1], by omega, hc, Nat.le_refl _, he'⟩) (Nat.le_refl _) hd
  rwa [List.take_of_length_le (by simp)] at this
theorem lop_slice_h (ho : o.op = .slice T x none (some xh) none) (hx : σ.look x = .p (.sl sze rows ex)) (hhi : σ.look xh = .p (.v (.int kh h))) (h0 : 0 ≤ h) (h1 : h ≤ rows.length) (hd : dOk C o.dst = true) : LOp C o σ ⟨.p (.sl sze (rows.take h.toNat) false), []⟩ (fun _ => false) := by
  have := slice_go (o := o) (hT := hT) (he := he) (σ := σ) (rows := rows) (ex := ex) (ex' := false) (l := 0) (h := h.toNat) none (some (kh, h)) none ho hx rfl (by simp [hhi]) rfl
    (fun cap w hc he' => ⟨cap, by simp [Instr.sliceBounds, run_sb (y := cap) h0 (by omega)], by omega, by omega, Nat.le_refl _, by simp⟩) (by omega) hd
  simpa using this
theorem lop_slice_lh (ho : o.op = .slice T x (some xl) (some xh) none) (hx : σ.look x = .p (.sl sze rows ex)) (hlo : σ.look xl = .p (.v (.int kl l))) (hhi : σ.look xh = .p (.v (.int kh h))) (h0 : 0 ≤ l) (h01 : l ≤ h) (h1 : h ≤ rows.length) (hd : dOk C o.dst = true) :
    LOp C o σ ⟨.p (.sl sze ((rows.drop l.toNat).take (h.toNat - l.toNat)) false), []⟩ (fun _ => false) :=
  slice_go (o := o) (hT := hT) (he := he) (σ := σ) (rows := rows) (ex := ex) (ex' := false) (l := l.toNat) (h := h.toNat) (some (kl, l)) (some (kh, h)) none ho hx (by simp [hlo]) (by simp [hhi]) rfl
    (fun cap w hc he' => ⟨cap, by simp [Instr.sliceBounds, run_sb (y := cap) (i := h) (by omega) (by omega), run_sb (y := h.toNat) h0 (by omega)], by omega, by omega, Nat.le_refl _, by simp⟩) (by omega) hd
theorem lop_slice_hm (ho : o.op = .slice T x none (some xh) (some xm)) (hx : σ.look x = .p (.sl sze rows ex)) (hhi : σ.look xh = .p (.v (.int kh h))) (hmx : σ.look xm = .p (.v (.int km m))) (h0 : 0 ≤ h) (hm : m = h) (h1 : h ≤ rows.length) (hd : dOk C o.dst = true) :
    LOp C o σ ⟨.p (.sl sze (rows.take h.toNat) true), []⟩ (fun _ => false) := by
  subst hm
  have := slice_go (o := o) (hT := hT) (he := he) (σ := σ) (rows := rows) (ex := ex) (ex' := true) (l := 0) (h := m.toNat) none (some (kh, m)) (some (km, m)) ho hx rfl (by simp [hhi]) (by simp [hmx])
    (fun cap w hc he' => ⟨m.toNat, by simp [Instr.sliceBounds, run_sb (y := cap) h0 (by omega), run_sb (y := m.toNat) h0 (by omega)], by omega, by omega, by omega, by simp⟩) (by omega) hd
  simpa using this
theorem lop_slice_lhm (ho : o.op = .slice T x (some xl) (some xh) (some xm)) (hx : σ.look x = .p (.sl sze rows ex)) (hlo : σ.look xl = .p (.v (.int kl l))) (hhi : σ.look xh = .p (.v (.int kh h))) (hmx : σ.look xm = .p (.v (.int km m))) (h0 : 0 ≤ l) (h01 : l ≤ h) (hm : m = h) (h1 : h ≤ rows.length) (hd : dOk C o.dst = true) :
    LOp C o σ ⟨.p (.sl sze ((rows.drop l.toNat).take (h.toNat - l.toNat)) true), []⟩ (fun _ => false) := by
  subst hm
  exact slice_go (o := o) (hT := hT) (he := he) (σ := σ) (rows := rows) (ex := ex) (ex' := true) (l := l.toNat) (h := m.toNat) (some (kl, l)) (some (kh, m)) (some (km, m)) ho hx (by simp [hlo]) (by simp [hhi]) (by simp [hmx])
    (fun cap w hc he' => ⟨m.toNat, by simp [Instr.sliceBounds, run_sb (y := cap) (i := m) (by omega) (by omega), run_sb (y := m.toNat) (i := m) (by omega) (by omega), run_sb (y := m.toNat) h0 (by omega)], by omega, by omega, by omega, by simp⟩) (by omega) hd
end

/-! ### Append -/

/-- what an operand, read as a slice, holds now: rows of pure cells -/
def SrcOk (C : Ctx) (σ : St) (x : Operand) (es : Nat) (rows : List (List PVal)) (ro : Nat → Bool) : Prop :=
  ∀ τ a w G, τ.look x = σ.look x → (∀ y, ro y = true → τ.mem y = σ.mem y) → RelG C τ a w G →
    ∃ base cap, a.eval x = .slice base rows.length cap ∧ match base with
      | none => rows = []
      | some ad => ∀ i row, rows[i]? = some row → row.length = es ∧ ∀ j p, row[j]? = some p → ∃ c, w.cell? (ad.add (i * es + j)) = some c ∧ p.holds ⟨w, G.S⟩ c

theorem src_nil {x : Operand} {es : Nat} (hx : σ.look x = .p (.v (.slice none 0 0))) : SrcOk C σ x es [] (fun _ => false) := fun τ a w G h1 h2 h =>
  ⟨none, 0, val_of h (h1.trans hx), rfl⟩
theorem cell_at {w : World} {ad : Addr} (ha : ad.spot = none) {cs : Array Value} {ty : TypeId} {fr : Nat × Nat} (hg : w.heap[ad.block]? = some (.cells cs ty fr)) (n : Nat) : w.cell? (ad.add n) = cs[ad.off + n]? := by
  rw [add_addr' ad ha, cell_of_row w _ _ _ _ _ hg]
theorem src_sl {x : Operand} {es : Nat} {rows : List (List PVal)} {ex : Bool} (hx : σ.look x = .p (.sl es rows ex)) : SrcOk C σ x es rows (fun _ => false) := fun τ a w G h1 h2 h => by
  obtain ⟨base, cap, k1, k2, k3, k4, k5⟩ := look_of h (h1.trans hx)
  refine ⟨base, cap, k1, ?_⟩
  cases base with
  | none => exact k5.1
  | some ad =>
    rcases k5 with k5 | ⟨g1, g2, cs, ty, fr, g3, g4⟩
    · intro i row hr; rw [k5] at hr; simp at hr
    refine fun i row hr => ⟨(g4 i row hr).1, fun j p hp => ?_⟩
    obtain ⟨c, hc, hh⟩ := (g4 i row hr).2 j p hp
    exact ⟨c, by rw [cell_at g1 g3, ← hc]; congr 1; omega, hh⟩
theorem src_osl {x : Operand} {ob g es lo len n ty : Nat} {rows : List (List PVal)} (hx : σ.look x = .o (.osl ob g es lo len)) (hm : σ.mem ob = (n, some (.buf ty es rows))) (hn : n = g + 1) (hl : lo + len ≤ rows.length) :
    SrcOk C σ x es ((rows.drop lo).take len) (fun y => y == ob) := fun τ a w G h1 h2 h => by
  subst hn
  obtain ⟨m, c, k1, k2, k3⟩ := look_of h (h1.trans hx)
  obtain ⟨g', m', hg, hmm, hes, hmax, hlen, hh⟩ := h.mem ob _ _ (by rw [h2 ob (by simp)]; exact hm)
  obtain rfl : g = g' := by omega
  rw [k1] at hmm; obtain rfl := Option.some.inj hmm
  have hln : ((rows.drop lo).take len).length = len := by simp; omega
  refine ⟨m.map fun b => ⟨b, lo * es, none⟩, c - lo, by rw [hln]; exact k3, ?_⟩
  rcases hh with ⟨h3, h4, h5⟩ | ⟨b, arr, h3, h4, h5, h6, h7⟩
  · simp only at h3 h4 hlen
    subst h3
    simp only [Option.map_none]
    exact List.eq_nil_of_length_eq_zero (by rw [hln]; omega)
  · simp only at h3; subst h3
    simp only [Option.map_some]
    intro i row hr
    have hr' : rows[lo + i]? = some row := by
      rw [List.getElem?_take] at hr
      split at hr
      · simpa using hr
      · cases hr
    refine ⟨(h7 _ _ hr').1, fun j p hp => ?_⟩
    obtain ⟨u, hu, hpu⟩ := (h7 _ _ hr').2 j p hp
    exact ⟨u, by rw [cell_at rfl h5, ← hu]; congr 1; simp only [Nat.add_mul]; omega, hpu⟩
theorem src_asl {x : Operand} {ob g off len cap n : Nat} {ty : TypeId} {cs : List AC} {rows : List (List PVal)} {es : Nat} (hx : σ.look x = .o (.asl ob g off len cap)) (hm : σ.mem ob = (n, some (.box ty cs))) (hn : n = g + 1)
    (hlen : rows.length = len) (hr : ∀ i row, rows[i]? = some row → row.length = es ∧ ∀ j p, row[j]? = some p → cs[off + i * es + j]? = some (.p p)) : SrcOk C σ x es rows (fun y => y == ob) := fun τ a w G h1 h2 h => by
  subst hn
  obtain ⟨b, c, k1, k2⟩ := look_of h (h1.trans hx)
  obtain ⟨g', m', hg, hmm, b', arr, h4, h5, h6, h7⟩ := h.mem ob _ _ (by rw [h2 ob (by simp)]; exact hm)
  obtain rfl : g = g' := by omega
  rw [k1] at hmm; obtain rfl := Option.some.inj hmm
  simp only [Option.some.injEq] at h4; subst h4
  refine ⟨some ⟨b, off, none⟩, cap, by rw [hlen]; exact k2, fun i row hrow => ⟨(hr i row hrow).1, fun j p hp => ?_⟩⟩
  obtain ⟨v, hv, hh⟩ := h7.get ((hr i row hrow).2 j p hp)
  exact ⟨v, by rw [add_addr, cell_row h6, ← hv]; congr 1; omega, hh⟩

/-- the values behind rows -/
theorem rows_vals {X : Wd} {es : Nat} {f : Nat → Option Value} : ∀ (rows : List (List PVal)), (∀ i row, rows[i]? = some row → row.length = es ∧ ∀ j p, row[j]? = some p → ∃ c, f (i * es + j) = some c ∧ p.holds X c) →
    ∃ vs : List Value, vs.length = rows.length * es ∧ (∀ j u, vs[j]? = some u → f j = some u) ∧ (∀ u ∈ vs, u.oneCell' = true) ∧ ∀ i row, rows[i]? = some row → row.length = es ∧ ∀ j p, row[j]? = some p → ∃ c, vs[i * es + j]? = some c ∧ p.holds X c := by
  intro rows h
  have hget : ∀ j, j < rows.length * es → ∃ c, f j = some c ∧ c.oneCell' = true := fun j hj => by
    have hes : 0 < es := by
      rcases Nat.eq_zero_or_pos es with h0 | h0
      · rw [h0] at hj; simp at hj
      · exact h0
    have hi : j / es < rows.length := Nat.div_lt_of_lt_mul (by rw [Nat.mul_comm]; exact hj)
    obtain ⟨h1, h2⟩ := h (j / es) rows[j / es] (List.getElem?_eq_getElem hi)
    have hm : j % es < rows[j / es].length := by rw [h1]; exact Nat.mod_lt _ hes
    obtain ⟨c, hc, hh⟩ := h2 (j % es) _ (List.getElem?_eq_getElem hm)
    refine ⟨c, ?_, PVal.one _ hh⟩
    rw [← hc]; congr 1
    have := Nat.div_add_mod j es
    rw [Nat.mul_comm] at this; omega
  let vs := (List.range (rows.length * es)).map fun j => (f j).getD undef
  have hvs : ∀ j, j < rows.length * es → vs[j]? = some ((f j).getD undef) := fun j hj => by simp [vs, hj]
  have hlen : vs.length = rows.length * es := by simp [vs]
  refine ⟨vs, hlen, fun j u hu => ?_, fun u hu => ?_, fun i row hr => ⟨(h i row hr).1, fun j p hp => ?_⟩⟩
  · have hj : j < rows.length * es := by rw [← hlen]; exact (List.getElem?_eq_some_iff.1 hu).1
    obtain ⟨c, hc, _⟩ := hget j hj
    rw [hvs j hj, hc] at hu
    simp at hu; rw [hc, hu]
  · obtain ⟨j, hj, hju⟩ := List.mem_iff_getElem.1 hu
    have hj' : j < rows.length * es := by rw [← hlen]; exact hj
    obtain ⟨c, hc, h1⟩ := hget j hj'
    have h2 := hvs j hj'
    rw [List.getElem?_eq_getElem hj, hju, hc] at h2
    simp at h2; rw [h2]; exact h1
  · obtain ⟨c, hc, hh⟩ := (h i row hr).2 j p hp
    have hi : i < rows.length := (List.getElem?_eq_some_iff.1 hr).1
    have hj : j < es := by rw [← (h i row hr).1]; exact (List.getElem?_eq_some_iff.1 hp).1
    have hlt : i * es + j < rows.length * es := by
      have : (i + 1) * es ≤ rows.length * es := Nat.mul_le_mul_right _ hi
      rw [Nat.add_mul] at this; omega
    exact ⟨c, by rw [hvs _ hlt, hc]; rfl, hh⟩

theorem app_fresh {P : Program} {T e ty : TypeId} {sz by_ : Nat} (hT : TI P T (.slice e) sz by_) {ke : TK} {es be : Nat} (he : TI P e ke es be) {z : List Value} (hz : TZ P e z) (hzl : z.length = es) {w : World}
    {bs src : Option Addr} {n cap m c : Nat} {olds news : List Value} (hbase : (bs = none ∧ n = 0 ∧ cap = 0 ∧ olds = []) ∨ ∃ b, bs = some b ∧ olds.length = n * es ∧ n ≤ cap ∧ ∀ j u, olds[j]? = some u → w.cell? (b.add j) = some u)
    (hnl : news.length = m * es) (hsrc : 0 < m → ∃ a, src = some a ∧ ∀ j u, news[j]? = some u → w.cell? (a.add j) = some u)
    (hgrow : cap < n + m) (h63 : n + m ≤ maxLen) (hby : (n + m) * be ≤ 140737488355328) :
    ∃ cap' arr, (Builtin.append_ #[T, T] ty #[.slice bs n cap, .slice src m c]).run P w = .ok (.slice (some ⟨w.heap.size, 0, none⟩) (n + m) cap') (w.drew.alloc (.cells arr e)) ∧
      n + m ≤ cap' ∧ cap' ≤ maxLen ∧ arr.size = cap' * es ∧ arr.toList.take ((n + m) * es) = olds ++ news := by
  obtain ⟨d, hdd, hkk⟩ := hT.undd
  have : d = .slice e := by cases d <;> simp [TK.of] at hkk; rw [hkk]
  subst this
  obtain ⟨i, hi, his, hib⟩ := he.infoo
  have hzz := hz.zero
  simp only [hi, Option.bind_some] at hzz
  cases hz0 : i.zero with
  | none => simp [hz0] at hzz
  | some zv =>
    simp only [hz0, Option.map_some, Option.some.injEq] at hzz
    have hzs : zv.cells.size = es := by rw [← hzl, ← hzz]; simp
    have hsmall : n + m ≤ 9223372036854775807 := by simp only [maxLen] at h63; omega
    have hge := grownCap_ge w (n + m) cap e
    have hcm := grownCap_le_maxLen w (n + m) cap e h63
    have hm : 0 < m := by
      rcases hbase with ⟨_, h1, h2, _⟩ | ⟨b, _, _, h1, _⟩ <;> omega
    obtain ⟨a, rfl, hnews⟩ := hsrc hm
    subst his hib
    have hol : olds.length = n * i.size := by
      rcases hbase with ⟨_, rfl, _, rfl⟩ | ⟨b, _, h1, _⟩
      · simp
      · exact h1
    have hlen : (olds ++ news).length = (n + m) * i.size := by rw [List.length_append, hol, hnl, Nat.add_mul]
    refine ⟨grownCap w (n + m) cap e, olds.toArray ++ news.toArray ++ Builtin.zeroCells zv.cells (grownCap w (n + m) cap e - (n + m)), ?_, hge, hcm, ?_, ?_⟩
    · rcases hbase with ⟨rfl, rfl, rfl, rfl⟩ | ⟨b, rfl, h1, h2, h3⟩
      · have hr := run_append_nil (P := P) w T ty e i zv hdd hi hz0 a m c news hnl hnews hm (by omega) (by simp only [Nat.zero_add] at hby; omega)
        simpa using hr
      · exact run_append_grow (P := P) w T ty e i zv hdd hi hz0 b n cap olds h1 h3 a m c news hnl hnews hgrow (by omega) (growslice_fits hgrow hby)
    · simp only [Array.size_append, List.size_toArray, size_zeroCells, hzs, hol, hnl, ← Nat.add_mul]
      congr 1; omega
    · simp only [Array.toList_append, List.append_assoc]
      rw [← List.append_assoc, ← hlen]
      exact List.take_left

theorem app_nothing {P : Program} {T e ty : TypeId} {sz by_ : Nat} (hT : TI P T (.slice e) sz by_) {ke : TK} {es be : Nat} (he : TI P e ke es be) {w : World} {bs src : Option Addr} {n cap c : Nat} (hn : n ≤ cap) :
    (Builtin.append_ #[T, T] ty #[.slice bs n cap, .slice src 0 c]).run P w = .ok (.slice bs n cap) w := by
  obtain ⟨d, hdd, hkk⟩ := hT.undd
  have : d = .slice e := by cases d <;> simp [TK.of] at hkk; rw [hkk]
  subst this
  cases src <;> cases bs <;> simp [Builtin.append_, run_underlying hdd, he.run_sizeOf, Builtin.lenOf, hn, Builtin.firstCells, loadCells, loadCellsFrom, storeCells]

theorem rowsAt_append {X : Wd} {arr : Array Value} {es : Nat} {rows news : List (List PVal)} {olds nvs : List Value} (ho : olds.length = rows.length * es) (hn : nvs.length = news.length * es)
    (htake : arr.toList.take ((rows.length + news.length) * es) = olds ++ nvs)
    (hold : ∀ i row, rows[i]? = some row → row.length = es ∧ ∀ j p, row[j]? = some p → ∃ c, olds[i * es + j]? = some c ∧ p.holds X c)
    (hnew : ∀ i row, news[i]? = some row → row.length = es ∧ ∀ j p, row[j]? = some p → ∃ c, nvs[i * es + j]? = some c ∧ p.holds X c) : RowsAt X arr 0 es (rows ++ news) := by
  have hget : ∀ (k : Nat) u, (olds ++ nvs)[k]? = some u → arr[k]? = some u := fun k u hk => by
    rw [← htake, List.getElem?_take] at hk
    split at hk
    · simpa using hk
    · cases hk
  intro i row hr
  by_cases hi : i < rows.length
  · rw [List.getElem?_append_left hi] at hr
    refine ⟨(hold i row hr).1, fun j p hp => ?_⟩
    obtain ⟨c, hc, hh⟩ := (hold i row hr).2 j p hp
    refine ⟨c, hget _ _ ?_, hh⟩
    rw [Nat.zero_add, List.getElem?_append_left (List.getElem?_eq_some_iff.1 hc).1]; exact hc
  · rw [List.getElem?_append_right (by omega)] at hr
    refine ⟨(hnew _ row hr).1, fun j p hp => ?_⟩
    obtain ⟨c, hc, hh⟩ := (hnew _ row hr).2 j p hp
    refine ⟨c, hget _ _ ?_, hh⟩
    have e : (i - rows.length) * es = i * es - rows.length * es := Nat.sub_mul _ _ _
    have hle : rows.length * es ≤ i * es := Nat.mul_le_mul_right _ (by omega)
    rw [Nat.zero_add, List.getElem?_append_right (by rw [ho]; omega), ho, ← hc]
    congr 1; omega

theorem wle_drew_alloc {w : World} {S : Nat → Prop} (hS : ∀ b, S b → b < w.heap.size) (ob : Obj) : Wd.le ⟨w, S⟩ ⟨w.drew.alloc ob, S⟩ := fun b hb => ⟨hb, Below.heap_alloc w.drew ob b (hS b hb)⟩

section append
variable {T e : TypeId} {x y : Operand} {sz by_ : Nat} [hT : TI C.P T (.slice e) sz by_] {ke : TK} {es be : Nat} [he : TI C.P e ke es be] {z : List Value} [hz : TZ C.P e z] {news : List (List PVal)} {ro : Nat → Bool}

/-- the source's values -/
theorem src_vals {τ : St} {a : Act} {w : World} {G : Gh} {base : Option Addr} (h : match base with
      | none => news = []
      | some ad => ∀ i row, news[i]? = some row → row.length = es ∧ ∀ j p, row[j]? = some p → ∃ c, w.cell? (ad.add (i * es + j)) = some c ∧ p.holds ⟨w, G.S⟩ c) :
    ∃ nvs : List Value, nvs.length = news.length * es ∧ (0 < news.length → ∃ ad, base = some ad ∧ ∀ j u, nvs[j]? = some u → w.cell? (ad.add j) = some u) ∧ (∀ u ∈ nvs, u.oneCell' = true) ∧
      ∀ i row, news[i]? = some row → row.length = es ∧ ∀ j p, row[j]? = some p → ∃ c, nvs[i * es + j]? = some c ∧ p.holds ⟨w, G.S⟩ c := by
  cases base with
  | none => simp only at h; subst h; exact ⟨[], by simp, by simp, by simp, by simp⟩
  | some ad =>
    obtain ⟨vs, h1, h2, h3, h4⟩ := rows_vals (X := ⟨w, G.S⟩) (es := es) (f := fun j => w.cell? (ad.add j)) news h
    exact ⟨vs, h1, fun _ => ⟨ad, rfl, h2⟩, h3, h4⟩

include hT he hz
/-- append to a nil slice: it grows from now on -/
theorem lop_append_nil {d n : Nat} {mo0 : Option MO} (ho : o.op = .call ⟨.builtin .append, #[x, y], #[T, T]⟩) (hdst : o.dst = some d) (hx : σ.look x = .p (.v (.slice none 0 0))) (hsrc : SrcOk C σ y es news ro) (hm : σ.mem d = (n, mo0))
    (hes : 0 < es) (hzl : z.length = es) (h63 : news.length ≤ maxLen) (hby : news.length * be ≤ 140737488355328) (hd : dOk C o.dst = true) :
    LOp C o σ ⟨.o (.osl d n es 0 news.length), [(d, (n + 1, some (.buf e es news)))]⟩ (fun q => ro q || q == d) :=
  lop_gen (by simp) hd hm fun τ a w G hl hm' h => by
    have hv := val_of h ((hl x (by simp [ho, Op.operands, Call.operands])).trans hx)
    obtain ⟨base, cap, h1, h2⟩ := hsrc τ a w G (hl y (by simp [ho, Op.operands, Call.operands])) (fun q hq => hm' q (by simp [hq])) h
    obtain ⟨nvs, k1, k2, k3, k4⟩ := src_vals (τ := τ) (a := a) h2
    have hlen : (G.μ d).length = n := by have := h.gens d; rw [hm' d (by simp), hm] at this; exact this
    by_cases h0 : news.length = 0
    · have hnil : news = [] := List.eq_nil_of_length_eq_zero h0
      subst hnil
      have hr := app_nothing (ty := o.type) hT he (w := w) (bs := none) (src := base) (n := 0) (cap := 0) (c := cap) (Nat.le_refl _)
      refine ⟨.slice none 0 0, w, (none, 0), [], ?_, rfl, rfl, rfl, Nat.le_refl _, fun _ _ _ => rfl, by simp, ?_, ?_⟩
      · simp only [execOp, ho, resolve, invoke, builtin, Sem.run_bind, Sem.run_pure, Result.andThen_ok, List.map_toArray, List.map_cons, List.map_nil, hv, h1, List.length_nil, hr]
      · exact ⟨hes, by simp, by simp, .inl ⟨rfl, rfl, rfl⟩⟩
      · exact ⟨none, 0, mu_new hlen, by simp, by simp⟩
    · obtain ⟨cap', arr, hr, g1, g2, g3, g4⟩ := app_fresh (ty := o.type) hT he hz hzl (w := w) (bs := none) (src := base) (n := 0) (cap := 0) (m := news.length) (c := cap) (olds := []) (news := nvs) (.inl ⟨rfl, rfl, rfl, rfl⟩) k1 k2 (by omega) (by omega) (by simpa using hby)
      simp only [Nat.zero_add, List.nil_append] at hr g1 g4
      refine ⟨.slice (some ⟨w.heap.size, 0, none⟩) news.length cap', w.drew.alloc (.cells arr e), (some w.heap.size, cap'), [w.heap.size], by
        simp only [execOp, ho, resolve, invoke, builtin, Sem.run_bind, Sem.run_pure, Result.andThen_ok, List.map_toArray, List.map_cons, List.map_nil, hv, h1, hr], rfl, rfl, rfl, by simp, fun k hk _ => Below.heap_alloc w.drew _ k hk, by simp, ?_, ?_⟩
      · refine ⟨hes, g2, g1, .inr ⟨w.heap.size, arr, rfl, rfl, heap_alloc_new w.drew _, g3, ?_⟩⟩
        have := rowsAt_append (X := ⟨w, G.S⟩) (arr := arr) (es := es) (rows := []) (news := news) (olds := []) (nvs := nvs) (by simp) k1 (by simpa using g4) (by simp) k4
        simp only [List.nil_append] at this
        intro i row hrow
        refine ⟨(this i row hrow).1, fun j p hp => ?_⟩
        obtain ⟨c, hc, hh⟩ := (this i row hrow).2 j p hp
        exact ⟨c, hc, p.mono (wle_drew_alloc (fun b hb => (h.sbd b hb).1) _) hh⟩
      · exact ⟨some w.heap.size, cap', mu_new hlen, by simpa using g1, by simp⟩

/-- append to an own growing slice -/
theorem lop_append_osl {ob g n len : Nat} {rows : List (List PVal)} (ho : o.op = .call ⟨.builtin .append, #[x, y], #[T, T]⟩) (hx : σ.look x = .o (.osl ob g es 0 len)) (hm : σ.mem ob = (n, some (.buf e es rows))) (hn : n = g + 1) (hlr : len = rows.length)
    (hsrc : SrcOk C σ y es news ro) (hzl : z.length = es) (h63 : rows.length + news.length ≤ maxLen) (hby : (rows.length + news.length) * be ≤ 140737488355328) (hd : dOk C o.dst = true) :
    LOp C o σ ⟨.o (.osl ob n es 0 (rows.length + news.length)), [(ob, (n + 1, some (.buf e es (rows ++ news))))]⟩ (fun q => ro q || q == ob) :=
  lop_gen (by simp) hd hm fun τ a w G hl hm' h => by
    subst hn hlr
    obtain ⟨m, c, p1, p2, p3⟩ := look_of h ((hl x (by simp [ho, Op.operands, Call.operands])).trans hx)
    obtain ⟨base, cap, h1, h2⟩ := hsrc τ a w G (hl y (by simp [ho, Op.operands, Call.operands])) (fun q hq => hm' q (by simp [hq])) h
    obtain ⟨nvs, k1, k2, k3, k4⟩ := src_vals (τ := τ) (a := a) h2
    have hlen : (G.μ ob).length = g + 1 := by have := h.gens ob; rw [hm' ob (by simp), hm] at this; exact this
    obtain ⟨g', m', hg, hmm, hes, hmax, hrl, hh⟩ := h.mem ob _ _ (by rw [hm' ob (by simp)]; exact hm)
    obtain rfl : g = g' := by omega
    rw [p1] at hmm; obtain rfl := Option.some.inj hmm
    simp only [Nat.zero_mul, Nat.sub_zero] at p3
    simp only at hrl hmax hh
    -- the old rows' values
    have hold : ∃ olds : List Value, ((m = none ∧ rows.length = 0 ∧ c = 0 ∧ olds = []) ∨ ∃ b, m = some b ∧ olds.length = rows.length * es ∧ rows.length ≤ c ∧ ∀ j u, olds[j]? = some u → w.cell? ((⟨b, 0, none⟩ : Addr).add j) = some u) ∧
        olds.length = rows.length * es ∧ (∀ i row, rows[i]? = some row → row.length = es ∧ ∀ j p, row[j]? = some p → ∃ u, olds[i * es + j]? = some u ∧ p.holds ⟨w, G.S⟩ u) := by
      rcases hh with ⟨h3, h4, h5⟩ | ⟨b, arr, h3, h4, h5, h6, h7⟩
      · have hr0 : rows = [] := List.eq_nil_of_length_eq_zero (by omega)
        subst hr0
        exact ⟨[], .inl ⟨h3, rfl, h4, rfl⟩, by simp, by simp⟩
      · have hcell : ∀ j, w.cell? ((⟨b, 0, none⟩ : Addr).add j) = arr[j]? := fun j => by rw [cell_at rfl h5]; simp
        obtain ⟨vs, q1, q2, q3, q4⟩ := rows_vals (X := ⟨w, G.S⟩) (es := es) (f := fun j => arr[j]?) rows (fun i row hr => ⟨(h7 i row hr).1, fun j p hp => by
          obtain ⟨u, hu, hpu⟩ := (h7 i row hr).2 j p hp
          exact ⟨u, by simpa using hu, hpu⟩⟩)
        exact ⟨vs, .inr ⟨b, h3, q1, hrl, fun j u hu => by rw [hcell]; exact q2 j u hu⟩, q1, q4⟩
    obtain ⟨olds, hb, hol, ho4⟩ := hold
    by_cases hroom : rows.length + news.length ≤ c
    · by_cases h0 : news.length = 0
      · have hnil : news = [] := List.eq_nil_of_length_eq_zero h0
        subst hnil
        have hr := app_nothing (ty := o.type) hT he (w := w) (bs := m.map fun b => ⟨b, 0, none⟩) (src := base) (n := rows.length) (cap := c) (c := cap) hrl
        refine ⟨a.eval x, w, (m, c), G.φ ob, ?_, rfl, rfl, rfl, Nat.le_refl _, fun _ _ _ => rfl, fun b hb => ⟨.inl hb, (h.own ob b hb).2⟩, ?_, ?_⟩
        · simp only [execOp, ho, resolve, invoke, builtin, Sem.run_bind, Sem.run_pure, Result.andThen_ok, List.map_toArray, List.map_cons, List.map_nil, p3, h1, List.length_nil, hr]
        · simp only [List.append_nil]; exact ⟨hes, hmax, hrl, hh⟩
        · exact ⟨m, c, mu_new hlen, by simpa using hrl, by simpa using p3⟩
      · -- room: written in place
        rcases hh with ⟨h3, h4, h5⟩ | ⟨b, arr, h3, h4, h5, h6, h7⟩
        · omega
        · subst h3
          rcases hb with ⟨hb, _⟩ | ⟨b', hb', _, _, hb3⟩
          · cases hb
          · obtain rfl := Option.some.inj hb'
            obtain ⟨ad, rfl, hnews⟩ := k2 (by omega)
            obtain ⟨d, hdd, hkk⟩ := hT.undd
            have : d = .slice e := by cases d <;> simp [TK.of] at hkk; rw [hkk]
            subst this
            obtain ⟨i, hi, his, hib⟩ := he.infoo
            subst his
            have hfit : rows.length * i.size + nvs.length ≤ arr.size := by rw [k1, h6, ← Nat.add_mul]; exact Nat.mul_le_mul_right _ hroom
            have hr := run_append_room (P := C.P) w T o.type e i hdd hi b rows.length c arr h5 ad news.length cap nvs k1 hnews k3 hroom hfit
            have hbS : ¬ G.S b := h.stab ob b (by rw [h4]; simp)
            have hle : Wd.le ⟨w, G.S⟩ ⟨w.setRow b (arr.toList.take (rows.length * i.size) ++ nvs ++ arr.toList.drop (rows.length * i.size + nvs.length)).toArray, G.S⟩ := fun k hk => ⟨hk, setRow_other w b k _ fun e => hbS (e ▸ hk)⟩
            have htk : arr.toList.take (rows.length * i.size) = olds := by
              apply List.ext_getElem?
              intro j
              by_cases hj : j < rows.length * i.size
              · rw [List.getElem?_take, if_pos hj]
                have hjo : j < olds.length := by rw [hol]; exact hj
                have h9 := hb3 j olds[j] (List.getElem?_eq_getElem hjo)
                rw [cell_at rfl h5] at h9
                rw [List.getElem?_eq_getElem hjo]; simpa using h9
              · rw [List.getElem?_eq_none (by simp; omega), List.getElem?_eq_none (by omega)]
            refine ⟨.slice (some ⟨b, 0, none⟩) (rows.length + news.length) c, w.setRow b (arr.toList.take (rows.length * i.size) ++ nvs ++ arr.toList.drop (rows.length * i.size + nvs.length)).toArray, (some b, c), [b], by
              simp only [execOp, ho, resolve, invoke, builtin, Sem.run_bind, Sem.run_pure, Result.andThen_ok, List.map_toArray, List.map_cons, List.map_nil, p3, Option.map_some, h1, hr], setRow_frame.1, setRow_frame.2.1, setRow_frame.2.2.1, Nat.le_of_eq setRow_frame.2.2.2,
              fun k _ hk => setRow_other w b k _ fun e => hk (by rw [h4, e]; simp), fun k hk => by
                simp at hk; subst hk
                have := (h.own ob k (by rw [h4]; simp)).2
                exact ⟨.inl (by rw [h4]; simp), by simpa using this⟩, ?_, ?_⟩
            · refine ⟨hes, hmax, by simpa using hroom, .inr ⟨b, _, rfl, rfl, setRow_heap w b _ _ e _ h5, ?_, ?_⟩⟩
              · simp only [List.size_toArray, List.length_append, List.length_take, List.length_drop, Array.length_toList]
                omega
              · have := rowsAt_append (X := ⟨w, G.S⟩) (arr := (arr.toList.take (rows.length * i.size) ++ nvs ++ arr.toList.drop (rows.length * i.size + nvs.length)).toArray) (es := i.size) (rows := rows) (news := news) (olds := olds) (nvs := nvs) hol k1
                  (by rw [htk]
                      show List.take _ (olds ++ nvs ++ _) = _
                      rw [show (rows.length + news.length) * i.size = (olds ++ nvs).length from by rw [List.length_append, hol, k1, Nat.add_mul]]
                      exact List.take_left) ho4 k4
                intro q row hrow
                refine ⟨(this q row hrow).1, fun j p hp => ?_⟩
                obtain ⟨u, hu, hpu⟩ := (this q row hrow).2 j p hp
                exact ⟨u, hu, p.mono hle hpu⟩
            · exact ⟨some b, c, mu_new hlen, by simpa using hroom, by simp⟩
    · have hb' : (m.map (fun b => (⟨b, 0, none⟩ : Addr)) = none ∧ rows.length = 0 ∧ c = 0 ∧ olds = []) ∨ ∃ b, m.map (fun b => (⟨b, 0, none⟩ : Addr)) = some b ∧ olds.length = rows.length * es ∧ rows.length ≤ c ∧ ∀ j u, olds[j]? = some u → w.cell? (b.add j) = some u := by
        rcases hb with ⟨rfl, q⟩ | ⟨b, rfl, q⟩
        · exact .inl ⟨rfl, q⟩
        · exact .inr ⟨_, rfl, q⟩
      obtain ⟨cap', arr, hr, g1, g2, g3, g4⟩ := app_fresh (ty := o.type) hT he hz hzl (w := w) (src := base) (m := news.length) (c := cap) (news := nvs) hb' k1 k2 (by omega) h63 hby
      refine ⟨.slice (some ⟨w.heap.size, 0, none⟩) (rows.length + news.length) cap', w.drew.alloc (.cells arr e), (some w.heap.size, cap'), [w.heap.size], by
        simp only [execOp, ho, resolve, invoke, builtin, Sem.run_bind, Sem.run_pure, Result.andThen_ok, List.map_toArray, List.map_cons, List.map_nil, p3, h1, hr], rfl, rfl, rfl, by simp, fun k hk _ => Below.heap_alloc w.drew _ k hk, by simp, ?_, ?_⟩
      · refine ⟨hes, g2, by simpa using g1, .inr ⟨w.heap.size, arr, rfl, rfl, heap_alloc_new w.drew _, g3, ?_⟩⟩
        have := rowsAt_append (X := ⟨w, G.S⟩) (arr := arr) (es := es) (rows := rows) (news := news) (olds := olds) (nvs := nvs) hol k1 g4 ho4 k4
        intro i row hrow
        refine ⟨(this i row hrow).1, fun j p hp => ?_⟩
        obtain ⟨u, hu, hpu⟩ := (this i row hrow).2 j p hp
        exact ⟨u, hu, p.mono (wle_drew_alloc (fun b hb => (h.sbd b hb).1) _) hpu⟩
      · exact ⟨some w.heap.size, cap', mu_new hlen, by simpa using g1, by simp⟩
end append
end ops
end Go.Aw
