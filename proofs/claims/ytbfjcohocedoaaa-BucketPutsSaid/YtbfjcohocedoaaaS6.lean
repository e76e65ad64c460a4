/- THE ABSTRACT WALK, part 31: a call that is lent two objects. Nothing here speaks of a program.; THE ABSTRACT WALK, part 32: a part of an element of an own slice is written. Nothing here speaks of a program.; packs: slices.Insert of one element into an own slice; packs: a list with another cart; buckets: BucketPuts; buckets: BucketPuts over what was read -/
import Derived.Test.YtbfjcohocedoaaaKz
import Derived.Test.YtbfjcohocedoaaaQ3
import Derived.Test.YtbfjcohocedoaaaS2
import Derived.Test.YtbfjcohocedoaaaS4
namespace Go.Aw
open Go Go.RowKit
set_option linter.unusedVariables false
set_option linter.unusedSimpArgs false
/-- the names: object 1000 is the caller's c, object 1001 the caller's d -/
def rn2 (c d : Nat) : Rn := fun k => if k = 1000 then some (c, none) else if k = 1001 then some (d, none) else none
theorem OCall.two {P : Program} {f : FuncId} {args : List AV} {n nd : Nat} {mo md : MO} {r : AV} {m1 m2 : Nat × Option MO} (h : OCall P f args (memL [(1000, (n, some mo)), (1001, (nd, some md))]) r (memL [(1000, m1), (1001, m2)])) (c d : Nat) (hcd : c ≠ d) :
    OCAt P f (args.map (AV.ren (rn2 c d))) [(c, (n, some (mo.ren (rn2 c d)))), (d, (nd, some (md.ren (rn2 c d))))] [] (r.ren (rn2 c d)) [(c, (m1.1, m1.2.map (MO.ren (rn2 c d)))), (d, (m2.1, m2.2.map (MO.ren (rn2 c d))))] := by
  have e1 : rn2 c d 1000 = some (c, none) := by simp [rn2]
  have e2 : rn2 c d 1001 = some (d, none) := by simp [rn2]
  have e3 : ∀ k, k ≠ 1000 → k ≠ 1001 → rn2 c d k = none := fun k h1 h2 => by simp [rn2, h1, h2]
  refine ocat_of (rn2 c d) (fun x => if x = c then some (1000, none) else if x = d then some (1001, none) else none) h ?_ ?_ ?_ ?_ ?_ ?_
  · intro k c' s
    by_cases hk : k = 1000
    · subst hk
      rw [e1]
      by_cases h1 : c' = c
      · subst h1; simp
      · by_cases h2 : c' = d
        · subst h2; simp [h1, Ne.symm hcd, hcd]
        · simp [h1, h2, Ne.symm h1]
    · by_cases hkq : k = 1001
      · subst hkq
        rw [e2]
        by_cases h1 : c' = c
        · subst h1; simp [Ne.symm hcd]
        · by_cases h2 : c' = d
          · subst h2; simp [h1]
          · simp [h1, h2, Ne.symm h2]
      · rw [e3 k hk hkq]
        by_cases h1 : c' = c
        · subst h1; simp [Ne.symm hk]
        · by_cases h2 : c' = d
          · subst h2; simp [h1, Ne.symm hkq]
          · simp [h1, h2]
  · intro k c' hk
    by_cases h1 : k = 1000
    · subst h1; rw [e1] at hk; simp at hk; subst hk; simp [memL]
    · by_cases h2 : k = 1001
      · subst h2; rw [e2] at hk; simp at hk; subst hk; simp [memL]
      · rw [e3 k h1 h2] at hk; cases hk
  · intro k c' n' hk
    by_cases h1 : k = 1000
    · subst h1; rw [e1] at hk; simp at hk
    · by_cases h2 : k = 1001
      · subst h2; rw [e2] at hk; simp at hk
      · rw [e3 k h1 h2] at hk; cases hk
  · intro k hk
    have h1 : k ≠ 1000 := fun e => by subst e; rw [e1] at hk; cases hk
    have h2 : k ≠ 1001 := fun e => by subst e; rw [e2] at hk; cases hk
    simp [memL, h1, h2]
  · intro c' k s hc
    by_cases h1 : c' = c
    · subst h1
      simp at hc; obtain ⟨rfl, rfl⟩ := hc
      exact ⟨by simp [kIn], fun mem => by simp [putsM, memL]⟩
    · by_cases h2 : c' = d
      · subst h2
        simp [h1] at hc; obtain ⟨rfl, rfl⟩ := hc
        exact ⟨by simp [kIn], fun mem => by simp [putsM, memL, h1]⟩
      · simp [h1, h2] at hc
  · intro c' hc
    by_cases h1 : c' = c
    · simp [h1] at hc
    · by_cases h2 : c' = d
      · rw [if_neg h1, if_pos h2] at hc; cases hc
      · simp only [kIn, Bool.or_false, Bool.or_eq_false_iff]
        exact ⟨Bool.eq_false_iff.2 fun hb => h1 (Nat.eq_of_beq_eq_true hb), Bool.eq_false_iff.2 fun hb => h2 (Nat.eq_of_beq_eq_true hb)⟩
/-- a contract with two objects that are lent -/
theorem ocall_of22 {P : Program} {f : FuncId} {fn : Func} {body : Code} {args : List AV} {r : AV} {m0 m1 k0 k1 : Nat × Option MO} (hf : P.funcs[f]? = some fn) (hb : fn.body = some body)
    (h : ∀ w0 F S0 M0, AWs ⟨P, w0, F, S0, max args.length fn.ntmps, none, M0⟩ [body] (RetO P fn r (kIn [(1000, m1), (1001, k1)]) (memL [(1000, m1), (1001, k1)])) ⟨fun t => args.getD t .un, memL [(1000, m0), (1001, k0)]⟩) : OCall P f args (memL [(1000, m0), (1001, k0)]) r (memL [(1000, m1), (1001, k1)]) := by
  refine ocall_of (kIn [(1000, m1), (1001, k1)]) hf hb (fun o ho => ?_) h
  have h1 : o ≠ 1000 := fun e => by subst e; simp [kIn] at ho
  have h2 : o ≠ 1001 := fun e => by subst e; simp [kIn] at ho
  simp [memL, h1, h2]
/-- a part of an own slice that nobody looks at -/
theorem lop_sl_osl_u {C : Ctx} {o : Oper} {σ : St} {T e : TypeId} {x xl : Operand} {sz by_ : Nat} {ke : TK} {sze be : Nat} {ob g len : Nat} {kl : IntKind} {l : Int} (ho : o.op = .slice T x (some xl) none none) (hT : TI C.P T (.slice e) sz by_) (he : TI C.P e ke sze be) (hx : σ.look x = .o (.osl ob g sze 0 len)) (hlo : σ.look xl = .p (.v (.int kl l))) (h0 : 0 ≤ l) (h1 : l ≤ len) (hd : dOk C o.dst = true) :
    LOp C o σ ⟨.un, []⟩ (fun _ => false) :=
  lop_val hd fun τ a w G hl hm' hr => by
    obtain ⟨m, c, k1, k2, k3⟩ := look_of hr ((hl x (by simp [ho, Op.operands])).trans hx)
    have e1 := val_of hr ((hl xl (by simp [ho, Op.operands])).trans hlo)
    obtain ⟨d, hdd, hkk⟩ := hT.undd
    have : d = .slice e := by cases d <;> simp [TK.of] at hkk; rw [hkk]
    subst this
    simp only [Nat.zero_mul, Nat.sub_zero, Nat.zero_add] at k2 k3
    have hb : (Instr.sliceBounds true len c (some (.int kl l)) none none).run C.P w = .ok (l.toNat, len, c) w := by simp [Instr.sliceBounds, run_sb h0 h1]
    refine ⟨.slice (if c = l.toNat then m.map (fun b => (⟨b, 0, none⟩ : Addr)) else (m.map fun b => (⟨b, 0, none⟩ : Addr)).map (·.add (l.toNat * sze))) (len - l.toNat) (c - l.toNat), ?_, trivial⟩
    simp only [execOp, ho, Instr.sliceAt, Sem.run_bind, run_underlying hdd, Result.andThen_ok, Instr.slice, k3, e1, Option.map_some, Option.map_none, hb, he.run_sizeOf, Sem.run_pure]
end Go.Aw
namespace Go.Aw
open Go Go.RowKit
set_option linter.unusedVariables false
set_option linter.unusedSimpArgs false
theorem lop_store_rowp {C : Ctx} {o : Oper} {σ : St} {T : TypeId} {x y : Operand} {k : TK} {sz by_ : Nat} [hT : TI C.P T k sz by_] {ob g n ty i es d : Nat} {rows : List (List PVal)} {old part : List PVal} {s : SV} (ho : o.op = .store T x y) (hdst : o.dst = none) (hx : σ.look x = .o (.ptr ob g (i * es + d))) (hy : σ.look y = .s s)
    (hsc : s.cells = part.map .p) (hrl : part.length = sz) (hm : σ.mem ob = (n, some (.buf ty es rows))) (hn : n = g + 1) (hi : rows[i]? = some old) (hde : d + sz ≤ es) : LOp C o σ ⟨.un, [(ob, (n, some (.buf ty es (rows.set i (old.take d ++ part ++ old.drop (d + sz))))))]⟩ (fun z => z == ob) :=
  lop_same (by simp) (by rw [hdst]; rfl) hm fun τ a w G g0 m hl' hm' h hng hmm hh => by
    subst hn
    obtain rfl : g = g0 := by omega
    obtain ⟨b, c', h1, h2⟩ := look_of h ((hl' x (by simp [ho, Op.operands])).trans hx)
    have h3 : s.holds G.μ ⟨w, G.S⟩ (a.eval y) := look_of h ((hl' y (by simp [ho, Op.operands])).trans hy)
    obtain ⟨hes, hmax, hrl2, hh⟩ := hh
    rw [h1] at hmm; obtain rfl := Option.some.inj hmm
    have hil : i < rows.length := (List.getElem?_eq_some_iff.1 hi).1
    rcases hh with ⟨h4, _⟩ | ⟨b', arr, h4, h5, h6, h7, h8⟩
    · simp at h4
    · simp only [Option.some.injEq] at h4; subst h4
      have h9 := h3.cells
      rw [hsc] at h9
      have hvl : (a.eval y).cells.toList.length = sz := by rw [← h9.1]; simpa using hrl
      have hone : ∀ u ∈ (a.eval y).cells.toList, u.oneCell' = true := fun u hu => by
        obtain ⟨j, hj, hu'⟩ := List.mem_iff_getElem.1 hu
        have hj' : j < (part.map AC.p).length := by rw [h9.1]; exact hj
        exact (h9.2 j (part.map AC.p)[j] u (by simp [hj']) (by rw [← hu']; exact List.getElem?_eq_getElem _)).one
      have hmul : i * es + es ≤ arr.size := by
        simp only at h7 hrl2
        rw [h7]
        calc i * es + es = (i + 1) * es := by rw [Nat.add_mul, Nat.one_mul]
          _ ≤ c' * es := Nat.mul_le_mul_right _ (by omega)
      have hsz : arr.toList.length = arr.size := Array.length_toList
      have h6' : w.heap[b]? = some (.cells arr.toList.toArray ty (0, 0)) := by simpa using h6
      have hr := run_storeVar hT h6' (off := i * es + d) (v := a.eval y) (by rw [hsz]; omega) (by simpa using hvl) hone
      have hle : Wd.le ⟨w, G.S⟩ ⟨w.setRow b (arr.toList.take (i * es + d) ++ (a.eval y).cells.toList ++ arr.toList.drop (i * es + d + sz)).toArray, G.S⟩ := fun k hk =>
        ⟨hk, setRow_other w b k _ fun e => h.stab ob b (by rw [h5]; simp) (e ▸ hk)⟩
      have htl : (arr.toList.take (i * es + d)).length = i * es + d := by rw [List.length_take]; omega
      have hget : ∀ (t : Nat) v, arr[t]? = some v → (t < i * es + d ∨ i * es + d + sz ≤ t) → (arr.toList.take (i * es + d) ++ (a.eval y).cells.toList ++ arr.toList.drop (i * es + d + sz))[t]? = some v := fun t v hv ht => by
        rw [List.append_assoc]
        rcases ht with ht | ht
        · rw [List.getElem?_append_left (by omega), List.getElem?_take, if_pos ht]; simpa using hv
        · rw [List.getElem?_append_right (by omega), htl, List.getElem?_append_right (by omega), hvl, List.getElem?_drop]
          rw [show i * es + d + sz + (t - (i * es + d) - sz) = t by omega]; simpa using hv
      refine ⟨.skip, undef, w.setRow b (arr.toList.take (i * es + d) ++ (a.eval y).cells.toList ++ arr.toList.drop (i * es + d + sz)).toArray, ?_, .inr ⟨rfl, rfl⟩, setRow_frame.1, setRow_frame.2.1, setRow_frame.2.2.1, setRow_frame.2.2.2,
        fun k _ hk => setRow_other w b k _ fun e => hk (by rw [h5, e]; simp), ⟨hes, hmax, by simpa using hrl2, .inr ⟨b, _, rfl, h5, setRow_heap w b _ _ ty _ h6', ?_, ?_⟩⟩, trivial⟩
      · simp only [execOp, ho, h2, Instr.storeAt, Instr.sureAddr, Sem.run_bind, Sem.run_pure, Result.andThen_ok, hr]
      · simp only [List.size_toArray, List.length_append, List.length_take, List.length_drop, Array.length_toList, hvl]
        rw [Nat.min_eq_left (by omega)]
        simp only at h7; omega
      · intro q r hq
        by_cases hqi : q = i
        · subst hqi
          rw [List.getElem?_set_self hil] at hq
          obtain rfl := Option.some.inj hq
          obtain ⟨e1, e2⟩ := h8 q old hi
          have hol : (old.take d).length = d := by rw [List.length_take]; omega
          refine ⟨by rw [List.length_append, List.length_append, hol, hrl, List.length_drop]; omega, fun j p hp => ?_⟩
          simp only [Nat.zero_add, List.getElem?_toArray]
          by_cases hj1 : j < d
          · rw [List.append_assoc, List.getElem?_append_left (by omega), List.getElem?_take, if_pos hj1] at hp
            obtain ⟨v, hv, hpv⟩ := e2 j p hp
            rw [Nat.zero_add] at hv
            exact ⟨v, hget _ v hv (.inl (by omega)), p.mono hle hpv⟩
          · by_cases hj2 : j < d + sz
            · rw [List.append_assoc, List.getElem?_append_right (by omega), hol, List.getElem?_append_left (by omega)] at hp
              obtain ⟨v, hv, hpv⟩ := h9.get (i := j - d) (a := .p p) (by simp [hp])
              refine ⟨v, ?_, p.mono hle hpv⟩
              rw [List.append_assoc, List.getElem?_append_right (by omega), htl, List.getElem?_append_left (by omega), ← hv]
              congr 1; omega
            · rw [List.append_assoc, List.getElem?_append_right (by omega), hol, List.getElem?_append_right (by omega), hrl, List.getElem?_drop] at hp
              rw [show d + sz + (j - d - sz) = j by omega] at hp
              obtain ⟨v, hv, hpv⟩ := e2 j p hp
              rw [Nat.zero_add] at hv
              exact ⟨v, hget _ v hv (.inr (by omega)), p.mono hle hpv⟩
        · rw [List.getElem?_set_ne (fun e => hqi e.symm)] at hq
          obtain ⟨e1, e2⟩ := h8 q r hq
          refine ⟨e1, fun j p hp => ?_⟩
          obtain ⟨v, hv, hpv⟩ := e2 j p hp
          have hj : j < es := by rw [← e1]; exact (List.getElem?_eq_some_iff.1 hp).1
          simp only [Nat.zero_add, List.getElem?_toArray]
          rw [Nat.zero_add] at hv
          refine ⟨v, hget _ v hv ?_, p.mono hle hpv⟩
          rcases Nat.lt_or_ge q i with hlt | hge
          · have : q * es + es ≤ i * es := by
              calc q * es + es = (q + 1) * es := by rw [Nat.add_mul, Nat.one_mul]
                _ ≤ i * es := Nat.mul_le_mul_right _ hlt
            left; omega
          · have : i * es + es ≤ q * es := by
              calc i * es + es = (i + 1) * es := by rw [Nat.add_mul, Nat.one_mul]
                _ ≤ q * es := Nat.mul_le_mul_right _ (by omega)
            right; omega
end Go.Aw
namespace Go.Proofs.Ytbfjcohocedoaaa.Wi
open Go Go.RowKit Go.Aw Go.Aw.Cart Go.Proofs.Ytbfjcohocedoaaa.Ca
set_option linter.unusedVariables false
set_option linter.unusedSimpArgs false
set_option maxRecDepth 8000
set_option maxHeartbeats 4000000
namespace WI
theorem lopC {C : Ctx} {o : Oper} {σ : St} {e : Eff} {ro : Nat → Bool} (h : LOp C o σ e ro := by
    first | (apply lop_cap_asl; (focus rfl); (focus exact inferInstance); (focus rfl); (focus rfl)) | exact lop_len_asl rfl rfl rfl | (apply lop_sl_asl_l; (focus rfl); (focus exact inferInstance); (focus exact inferInstance); (focus rfl); (focus rfl); (focus omega); (focus omega); (focus omega); (focus omega); (focus rfl)) | (apply lop_sl_asl_h; (focus rfl); (focus exact inferInstance); (focus exact inferInstance); (focus rfl); (focus rfl); (focus omega); (focus omega); (focus rfl)) | (apply lop_sl_osl_l; (focus rfl); (focus exact inferInstance); (focus exact inferInstance); (focus rfl); (focus rfl); (focus omega); (focus omega); (focus rfl)) | (apply lop_sl_osl_u; (focus rfl); (focus exact inferInstance); (focus exact inferInstance); (focus rfl); (focus rfl); (focus omega); (focus omega); (focus rfl)) | exact W9.lopC | fail) : LOp C o σ e ro := h
section steps
variable {C : Ctx} {ops : Array Oper} {o : Oper} {rest : List Oper} {K : St → Prop} {σ : St} {e : Eff} {ro : Nat → Bool} {W : List (Nat × Nat)} {i : Nat}
theorem rnC {d : Nat} (hk : RunN C ops rest K (e.app (some d) σ)) (hg : Guard ops σ o true := by first | exact gd_n rfl rfl | exact gd_t rfl rfl rfl rfl | exact gd_t rfl rfl rfl (by assumption)) (hd : o.dst = some d := by rfl) (h : LOp C o σ e ro := by exact lopC) : RunN C ops (o :: rest) K σ := rn_any hg hd h hk
theorem rkC {d : Nat} (hk : RunK C ops W (i + 1) rest K (e.app (some d) σ)) (hg : Guard ops σ o true := by first | exact gd_n rfl rfl | exact gd_t rfl rfl rfl rfl | exact gd_t rfl rfl rfl (by assumption)) (hd' : o.dst = some d := by rfl) (hd : dOk C o.dst = true := by rfl) (h : LOp C o σ e ro := by exact lopC)
    (hro : ∀ x, ro x = true → okObj ops W i x = true := by first | exact fun _ => ro_none | exact ro_one rfl | exact ro_k1 rfl | exact ro_one (by kernel_rfl) | exact ro_k1 (by kernel_rfl) | exact ro_kIn (by decide)) (hob : ∀ p ∈ e.obj, (i, p.1) ∈ W := by first | exact ob_none | exact ob_one (by decide) | decide) : RunK C ops W i (o :: rest) K σ := rk_wr hg hd' hd h hro hob hk
end steps
end WI
open WI
abbrev kT := 36
theorem ovl_f : OvF Try.prog 71 22 4 := ⟨_, Try.func71, by kernel_rfl, by kernel_rfl, by kernel_rfl, by kernel_rfl⟩
theorem ins_rows1 {α : Type} (rows : List α) (xr zr : α) (i : Nat) (hi : i < rows.length) (A R : List α) (hA : A = rows.take i ++ List.replicate (rows.length + 1 - i) zr) (hR : R = A.take i ++ [xr] ++ A.drop (i + 1)) :
    R.take (i + 1) ++ (rows.drop i).take (rows.length - i) ++ R.drop (i + 1 + (rows.length - i)) = rows.take i ++ xr :: rows.drop i := by
  have hl : (rows.take i).length = i := by rw [List.length_take]; omega
  have hAl : A.length = rows.length + 1 := by rw [hA, List.length_append, hl, List.length_replicate]; omega
  have hAt : A.take i = rows.take i := by
    rw [hA]
    exact List.take_left' hl
  have hRl : R.length = rows.length + 1 := by rw [hR, List.length_append, List.length_append, hAt, hl, List.length_drop, hAl, List.length_singleton]; omega
  have h1 : R.take (i + 1) = rows.take i ++ [xr] := by
    have e : (rows.take i ++ [xr]).length = i + 1 := by rw [List.length_append, hl]; rfl
    rw [hR, hAt]
    exact List.take_left' e
  have h2 : R.drop (i + 1 + (rows.length - i)) = [] := List.drop_of_length_le (by omega)
  have h3 : (rows.drop i).take (rows.length - i) = rows.drop i := List.take_of_length_le (by rw [List.length_drop]; omega)
  rw [h1, h2, h3, List.append_nil, List.append_assoc]; rfl
theorem ins_len1 {α : Type} (rows : List α) (xr zr : α) (i : Nat) (hi : i < rows.length) (A R : List α) (hA : A = rows.take i ++ List.replicate (rows.length + 1 - i) zr) (hR : R = A.take i ++ [xr] ++ A.drop (i + 1)) : R.length = rows.length + 1 := by
  have hl : (rows.take i).length = i := by rw [List.length_take]; omega
  have hAl : A.length = rows.length + 1 := by rw [hA, List.length_append, hl, List.length_replicate]; omega
  rw [hR, List.length_append, List.length_append, List.length_take, List.length_drop, hAl, List.length_singleton]; omega
theorem ins_len2 {α : Type} (rows : List α) (i : Nat) (hi : i < rows.length) (R : List α) (hR : R = rows.take (i + 1) ++ (rows.drop i).take (rows.length - i) ++ rows.drop (i + 1 + (rows.length - i))) : R.length = rows.length + 1 := by
  rw [hR, List.length_append, List.length_append, List.length_take, List.length_take, List.length_drop, List.length_drop]; omega
theorem ins_rows2 {α : Type} (rows : List α) (xr : α) (i : Nat) (hi : i < rows.length) (R : List α) (hR : R = rows.take (i + 1) ++ (rows.drop i).take (rows.length - i) ++ rows.drop (i + 1 + (rows.length - i))) :
    R.take i ++ [xr] ++ R.drop (i + 1) = rows.take i ++ xr :: rows.drop i := by
  have hl : (rows.take (i + 1)).length = i + 1 := by rw [List.length_take]; omega
  have h2 : rows.drop (i + 1 + (rows.length - i)) = [] := List.drop_of_length_le (by omega)
  have h3 : (rows.drop i).take (rows.length - i) = rows.drop i := List.take_of_length_le (by rw [List.length_drop]; omega)
  rw [h2, h3, List.append_nil] at hR
  have h1 : R.take i = rows.take i := by
    rw [hR, List.take_append_of_le_length (by omega), List.take_take, Nat.min_eq_left (by omega)]
  have h2 : R.drop (i + 1) = rows.drop i := by
    rw [hR]
    exact List.drop_left' hl
  rw [h1, h2, List.append_assoc]; rfl
abbrev zR : List Value := [.string ByteArray.empty, .int .u64 0, .int .u64 0, .int .u64 0, .int .u64 0, .int .u64 0, .int .u64 0, .int .u64 0, .int .u64 0, .slice none 0 0]
theorem zR_one : ∀ v ∈ zR, v.oneCell' = true := by
  intro v hv
  simp only [zR, List.mem_cons, List.not_mem_nil, or_false] at hv
  rcases hv with rfl | rfl | rfl | rfl | rfl | rfl | rfl | rfl | rfl | rfl <;> rfl
theorem insert_o (g gd : Nat) (l : List Kd) (x : Kd) (i : Nat) (hi : i ≤ l.length) (hl : l.length ≤ 1000000) : OCall Try.prog 49 [.o (.osl 1000 g 10 0 l.length), .p (.i (i : Int)), .o (.osl 1001 gd 10 0 1)]
    (memL [(1000, (g + 1, some (.buf kT 10 (l.map kR)))), (1001, (gd + 1, some (.buf kT 10 [kR x])))]) (.o (.osl 1000 (g + 1) 10 0 (l.take i ++ x :: l.drop i).length)) (memL [(1000, (g + 2, some (.buf kT 10 ((l.take i ++ x :: l.drop i).map kR)))), (1001, (gd + 1, some (.buf kT 10 [kR x])))]) := by
  refine ocall_of22 Try.func49 rfl (fun w0 F S0 M0 => ?_)
  have d0 : decide (((1 : Nat) : Int) = 0) = false := by decide
  have hnl : (l.take i ++ x :: l.drop i).length = l.length + 1 := by rw [List.length_append, List.length_cons, List.length_take, List.length_drop]; omega
  rw [hnl]
  by_cases he : i = l.length
  · have d1 : decide ((i : Int) = (l.length : Int)) = true := decide_eq_true (by omega)
    rw [show (l.take i ++ x :: l.drop i).map kR = l.map kR ++ [kR x] by rw [he, List.take_length, List.drop_length, List.map_append]; rfl]
    repeat' (first | refine rnC ?_ | refine rnSB ?_ | refine rnG ?_ | refine rnU ?_ | ((fail_if_success (refine rnKn ?_)); refine rnP ?_ ?_ <;> (intro hq; try (have hq' := hq; simp only [hqs] at hq'))) | refine rkC ?_ | refine rkSB ?_ | refine rkF ?_ | refine rkU ?_ | ((fail_if_success (refine rkKn ?_)); refine rkP ?_ ?_ <;> (intro hq; try (have hq' := hq; simp only [hqs] at hq'))) | refine stp ?_ | refine ifT ?_ | refine ifF ?_ | (refine ifQ ?_ ?_ <;> (try (intro hn))) | (refine ifB ?_ ?_ <;> (intro hq; try (have hq' := hq; simp only [hqs] at hq'))))
    refine rn_any (gd_n rfl rfl) rfl (lop_append_osl (es := 10) (rows := l.map kR) (news := [kR x]) rfl rfl rfl rfl (by rw [List.length_map]) (src_osl (x := .tmp 24) (rows := [kR x]) (lo := 0) (len := 1) rfl rfl rfl (Nat.le_refl _)) rfl (by rw [List.length_map]; simp only [maxLen, List.length_cons, List.length_nil]; omega) (by rw [List.length_map]; simp only [List.length_cons, List.length_nil]; omega) rfl) ?_
    as_aux_lemma =>
      repeat' (first | refine rnC ?_ | refine rnSB ?_ | refine rnG ?_ | refine rnU ?_ | ((fail_if_success (refine rnKn ?_)); refine rnP ?_ ?_ <;> (intro hq; try (have hq' := hq; simp only [hqs] at hq'))) | refine rkC ?_ | refine rkSB ?_ | refine rkF ?_ | refine rkU ?_ | ((fail_if_success (refine rkKn ?_)); refine rkP ?_ ?_ <;> (intro hq; try (have hq' := hq; simp only [hqs] at hq'))) | refine stp ?_ | refine ifT ?_ | refine ifF ?_ | (refine ifQ ?_ ?_ <;> (try (intro hn))) | (refine ifB ?_ ?_ <;> (intro hq; try (have hq' := hq; simp only [hqs] at hq'))))
      exact RetO.mk (ot1 rfl rfl (.one (.kosl rfl)) (by rw [List.length_map]; rfl)) ⟨.buf, .buf, trivial⟩
  · have d1 : decide ((i : Int) = (l.length : Int)) = false := decide_eq_false (by omega)
    have hil : i < l.length := by omega
    refine aws_endS ?_
    refine aws_cap (t := 0) (o := 1000) rfl rfl rfl (by rw [List.length_map]; omega) fun c hc1 hc2 => ?_
    rw [List.length_map] at hc1
    simp only [maxLen] at hc2
    have hm : (l.take i ++ x :: l.drop i).map kR = (l.map kR).take i ++ kR x :: (l.map kR).drop i := by rw [List.map_append, List.map_cons, List.map_take, List.map_drop]
    rw [hm]
    have hrl : (l.map kR).length = l.length := List.length_map _
    by_cases hg : c < l.length + 1
    · have d2 : decide ((c : Int) < (l.length : Int) + ((1 : Nat) : Int)) = true := decide_eq_true (by omega)
      have hE := ins_rows1 (l.map kR) (kR x) (zR.map PVal.v) i (by rw [hrl]; exact hil) _ _ rfl rfl
      have hRl := ins_len1 (l.map kR) (kR x) (zR.map PVal.v) i (by rw [hrl]; exact hil) _ _ rfl rfl
      rw [hrl] at hE hRl
      rw [← hE]
      repeat' (first | refine rnC ?_ | refine rnSB ?_ | refine rnG ?_ | refine rnU ?_ | ((fail_if_success (refine rnKn ?_)); refine rnP ?_ ?_ <;> (intro hq; try (have hq' := hq; simp only [hqs] at hq'))) | refine rkC ?_ | refine rkSB ?_ | refine rkF ?_ | refine rkU ?_ | ((fail_if_success (refine rkKn ?_)); refine rkP ?_ ?_ <;> (intro hq; try (have hq' := hq; simp only [hqs] at hq'))) | refine stp ?_ | refine ifT ?_ | refine ifF ?_ | (refine ifQ ?_ ?_ <;> (try (intro hn))) | (refine ifB ?_ ?_ <;> (intro hq; try (have hq' := hq; simp only [hqs] at hq'))))
      refine rn_any (gd_n rfl rfl) rfl (lop_ap_zc (k := l.length + 1 - i) (len1 := i) (z := zR) rfl inferInstance inferInstance inferInstance inferInstance rfl zR_one rfl rfl rfl rfl rfl (by omega) (by omega) (by rw [hrl]; omega) (by omega) (by omega) (by omega) rfl (by decide) rfl) ?_
      repeat' (first | refine rnC ?_ | refine rnSB ?_ | refine rnG ?_ | refine rnU ?_ | ((fail_if_success (refine rnKn ?_)); refine rnP ?_ ?_ <;> (intro hq; try (have hq' := hq; simp only [hqs] at hq'))) | refine rkC ?_ | refine rkSB ?_ | refine rkF ?_ | refine rkU ?_ | ((fail_if_success (refine rkKn ?_)); refine rkP ?_ ?_ <;> (intro hq; try (have hq' := hq; simp only [hqs] at hq'))) | refine stp ?_ | refine ifT ?_ | refine ifF ?_ | (refine ifQ ?_ ?_ <;> (try (intro hn))) | (refine ifB ?_ ?_ <;> (intro hq; try (have hq' := hq; simp only [hqs] at hq'))))
      refine rn_any (gd_n rfl rfl) rfl (lop_cp_o (ob := 40) (d := i) (k := 1) rfl inferInstance inferInstance rfl rfl rfl ((src_osl (x := .tmp 44) (rows := [kR x]) (lo := 0) (len := 1) rfl rfl rfl (Nat.le_refl _)).n (Nat.succ_pos 0)) (by show Nat.min 1 _ = 1; exact Nat.min_eq_left (by omega)) (Nat.le_refl 1) (by decide) (by rw [List.length_append, List.length_take, hrl, List.length_replicate]; omega) rfl) ?_
      repeat' (first | refine rnC ?_ | refine rnSB ?_ | refine rnG ?_ | refine rnU ?_ | ((fail_if_success (refine rnKn ?_)); refine rnP ?_ ?_ <;> (intro hq; try (have hq' := hq; simp only [hqs] at hq'))) | refine rkC ?_ | refine rkSB ?_ | refine rkF ?_ | refine rkU ?_ | ((fail_if_success (refine rkKn ?_)); refine rkP ?_ ?_ <;> (intro hq; try (have hq' := hq; simp only [hqs] at hq'))) | refine stp ?_ | refine ifT ?_ | refine ifF ?_ | (refine ifQ ?_ ?_ <;> (try (intro hn))) | (refine ifB ?_ ?_ <;> (intro hq; try (have hq' := hq; simp only [hqs] at hq'))))
      refine aws_draws [(8, 40)] mixed (by kernel_rfl) ?_
      repeat' (first | refine rk_nil ?_ | refine rkC ?_ | refine rkSB ?_ | refine rkF ?_ | refine rkU ?_ | ((fail_if_success (refine rkKn ?_)); refine rkP ?_ ?_ <;> (intro hq; try (have hq' := hq; simp only [hqs] at hq'))))
      refine rk_wr (gd_n rfl rfl) rfl rfl (lop_cp_o (ob := 40) (d := i + 1) (k := l.length - i) rfl inferInstance inferInstance rfl rfl rfl (src_aslC (x := .tmp 53) (ob := 1000) (d := i) rfl rfl rfl (by show 0 + (i : Int).toNat * 10 = i * 10; rw [Nat.zero_add]; rfl)) (by show Nat.min (l.length - i) _ = l.length - i; exact Nat.min_eq_left (by omega)) (by rw [List.length_drop, hrl]; exact Nat.le_refl _) (by omega) (Nat.le_trans (show i + 1 + (i + (l.length + 1 - i) - ((i : Int) + ((1 : Nat) : Int)).toNat) ≤ l.length + 1 by omega) (Nat.le_of_eq hRl.symm)) rfl) (by intro q hq; simp only [Bool.or_eq_true, beq_iff_eq] at hq; rcases hq with rfl | rfl <;> kernel_rfl) (ob_one (by decide)) ?_
      repeat' (first | refine rk_nil ?_ | refine rkC ?_ | refine rkSB ?_ | refine rkF ?_ | refine rkU ?_ | ((fail_if_success (refine rkKn ?_)); refine rkP ?_ ?_ <;> (intro hq; try (have hq' := hq; simp only [hqs] at hq'))))
      as_aux_lemma =>
        repeat' (first | refine rnC ?_ | refine rnSB ?_ | refine rnG ?_ | refine rnU ?_ | ((fail_if_success (refine rnKn ?_)); refine rnP ?_ ?_ <;> (intro hq; try (have hq' := hq; simp only [hqs] at hq'))) | refine rkC ?_ | refine rkSB ?_ | refine rkF ?_ | refine rkU ?_ | ((fail_if_success (refine rkKn ?_)); refine rkP ?_ ?_ <;> (intro hq; try (have hq' := hq; simp only [hqs] at hq'))) | refine stp ?_ | refine ifT ?_ | refine ifF ?_ | (refine ifQ ?_ ?_ <;> (try (intro hn))) | (refine ifB ?_ ?_ <;> (intro hq; try (have hq' := hq; simp only [hqs] at hq'))))
        exact ⟨_, says_mv (t := 6) (o := 1000) (o2 := 40) rfl rfl rfl rfl (by decide), RetO.mk (ot1 rfl rfl (.one (.kosl rfl)) (by rw [show i + (l.length + 1 - i) = l.length + 1 by omega])) ⟨.buf, .buf, trivial⟩⟩
    · have d2 : decide ((c : Int) < (l.length : Int) + ((1 : Nat) : Int)) = false := decide_eq_false (by omega)
      have hE := ins_rows2 (l.map kR) (kR x) i (by rw [hrl]; exact hil) _ rfl
      have hRl := ins_len2 (l.map kR) i (by rw [hrl]; exact hil) _ rfl
      rw [hrl] at hE hRl
      have hR2 := (congrArg List.length hE).trans (show ((l.map kR).take i ++ kR x :: (l.map kR).drop i).length = l.length + 1 by rw [List.length_append, List.length_cons, List.length_take, List.length_drop, hrl]; omega)
      rw [← hE]
      repeat' (first | refine rnC ?_ | refine rnSB ?_ | refine rnG ?_ | refine rnU ?_ | ((fail_if_success (refine rnKn ?_)); refine rnP ?_ ?_ <;> (intro hq; try (have hq' := hq; simp only [hqs] at hq'))) | refine rkC ?_ | refine rkSB ?_ | refine rkF ?_ | refine rkU ?_ | ((fail_if_success (refine rkKn ?_)); refine rkP ?_ ?_ <;> (intro hq; try (have hq' := hq; simp only [hqs] at hq'))) | refine stp ?_ | refine ifT ?_ | refine ifF ?_ | (refine ifQ ?_ ?_ <;> (try (intro hn))) | (refine ifB ?_ ?_ <;> (intro hq; try (have hq' := hq; simp only [hqs] at hq'))))
      refine rn_any (gd_n rfl rfl) rfl (lop_ovl (ob := 1000) (d := 1001) ovl_f inferInstance inferInstance rfl rfl rfl rfl rfl rfl rfl (Nat.succ_pos _) (by rw [hrl]; omega) (by decide) rfl) ?_
      have d3 : (!false) = true := rfl
      repeat' (first | refine rnC ?_ | refine rnSB ?_ | refine rnG ?_ | refine rnU ?_ | ((fail_if_success (refine rnKn ?_)); refine rnP ?_ ?_ <;> (intro hq; try (have hq' := hq; simp only [hqs] at hq'))) | refine rkC ?_ | refine rkSB ?_ | refine rkF ?_ | refine rkU ?_ | ((fail_if_success (refine rkKn ?_)); refine rkP ?_ ?_ <;> (intro hq; try (have hq' := hq; simp only [hqs] at hq'))) | refine stp ?_ | refine ifT ?_ | refine ifF ?_ | (refine ifQ ?_ ?_ <;> (try (intro hn))) | (refine ifB ?_ ?_ <;> (intro hq; try (have hq' := hq; simp only [hqs] at hq'))))
      refine aws_draws [(8, 1000)] mixed (by kernel_rfl) ?_
      repeat' (first | refine rk_nil ?_ | refine rkC ?_ | refine rkSB ?_ | refine rkF ?_ | refine rkU ?_ | ((fail_if_success (refine rkKn ?_)); refine rkP ?_ ?_ <;> (intro hq; try (have hq' := hq; simp only [hqs] at hq'))))
      refine rk_wr (gd_n rfl rfl) rfl rfl (lop_cp_c (ob := 1000) (d := i + 1) (c := c) (k := l.length - i) rfl inferInstance inferInstance rfl rfl rfl (by show 0 + ((i : Int) + ((1 : Nat) : Int)).toNat * 10 = (i + 1) * 10; rw [show ((i : Int) + ((1 : Nat) : Int)).toNat = i + 1 by omega, Nat.zero_add]) (src_aslC (x := .tmp 76) (ob := 1000) (d := i) rfl rfl rfl (by show 0 + (i : Int).toNat * 10 = i * 10; rw [Nat.zero_add]; rfl)) (by show Nat.min (((l.length : Int) + ((1 : Nat) : Int)).toNat - (i : Int).toNat) (((l.length : Int) + ((1 : Nat) : Int)).toNat - ((i : Int) + ((1 : Nat) : Int)).toNat) = l.length - i; exact (Nat.min_eq_right (show ((l.length : Int) + ((1 : Nat) : Int)).toNat - ((i : Int) + ((1 : Nat) : Int)).toNat ≤ ((l.length : Int) + ((1 : Nat) : Int)).toNat - (i : Int).toNat by omega)).trans (by omega)) (by rw [List.length_drop, hrl]; exact Nat.le_refl _) (by omega) (by rw [hrl]; omega) (by omega) rfl) (by intro q hq; simp only [Bool.or_eq_true, beq_iff_eq, or_self] at hq; subst hq; kernel_rfl) (ob_one (by decide)) ?_
      repeat' (first | refine rk_nil ?_ | refine rkC ?_ | refine rkSB ?_ | refine rkF ?_ | refine rkU ?_ | ((fail_if_success (refine rkKn ?_)); refine rkP ?_ ?_ <;> (intro hq; try (have hq' := hq; simp only [hqs] at hq'))))
      repeat' (first | refine rnC ?_ | refine rnSB ?_ | refine rnG ?_ | refine rnU ?_ | ((fail_if_success (refine rnKn ?_)); refine rnP ?_ ?_ <;> (intro hq; try (have hq' := hq; simp only [hqs] at hq'))) | refine rkC ?_ | refine rkSB ?_ | refine rkF ?_ | refine rkU ?_ | ((fail_if_success (refine rkKn ?_)); refine rkP ?_ ?_ <;> (intro hq; try (have hq' := hq; simp only [hqs] at hq'))) | refine stp ?_ | refine ifT ?_ | refine ifF ?_ | (refine ifQ ?_ ?_ <;> (try (intro hn))) | (refine ifB ?_ ?_ <;> (intro hq; try (have hq' := hq; simp only [hqs] at hq'))))
      refine rn_any (gd_n rfl rfl) rfl (lop_cp_c (ob := 1000) (d := i) (c := c) (k := 1) rfl inferInstance inferInstance rfl rfl rfl (by show 0 + (i : Int).toNat * 10 = i * 10; rw [Nat.zero_add]; rfl) ((src_osl (x := .tmp 81) (rows := [kR x]) (lo := 0) (len := 1) rfl rfl rfl (Nat.le_refl _)).n (Nat.succ_pos 0)) (by show Nat.min 1 (((l.length : Int) + ((1 : Nat) : Int)).toNat - (i : Int).toNat) = 1; exact Nat.min_eq_left (by omega)) (Nat.le_refl 1) (by decide) (Nat.le_trans (show i ≤ l.length + 1 by omega) (Nat.le_of_eq hRl.symm)) (by omega) rfl) ?_
      as_aux_lemma =>
        repeat' (first | refine rnC ?_ | refine rnSB ?_ | refine rnG ?_ | refine rnU ?_ | ((fail_if_success (refine rnKn ?_)); refine rnP ?_ ?_ <;> (intro hq; try (have hq' := hq; simp only [hqs] at hq'))) | refine rkC ?_ | refine rkSB ?_ | refine rkF ?_ | refine rkU ?_ | ((fail_if_success (refine rkKn ?_)); refine rkP ?_ ?_ <;> (intro hq; try (have hq' := hq; simp only [hqs] at hq'))) | refine stp ?_ | refine ifT ?_ | refine ifF ?_ | (refine ifQ ?_ ?_ <;> (try (intro hn))) | (refine ifB ?_ ?_ <;> (intro hq; try (have hq' := hq; simp only [hqs] at hq'))))
        exact ⟨_, says_uncap (t := 6) (o := 1000) (c := c) rfl rfl rfl (Eq.trans (show ((l.length : Int) + ((1 : Nat) : Int)).toNat = l.length + 1 by omega) hR2.symm), RetO.mk (ot1 rfl rfl (.one (.kosl rfl)) (by rw [show ((l.length : Int) + ((1 : Nat) : Int)).toNat = l.length + 1 by omega])) ⟨.buf, .buf, trivial⟩⟩
end Go.Proofs.Ytbfjcohocedoaaa.Wi
namespace Go.Proofs.Ytbfjcohocedoaaa.Wi
open Go Go.RowKit Go.Aw Go.Aw.Cart Go.Proofs.Ytbfjcohocedoaaa.Ca
set_option linter.unusedVariables false
set_option linter.unusedSimpArgs false
set_option maxRecDepth 8000
set_option maxHeartbeats 4000000
/-- another cart in an own slice's element -/
theorem lop_st_kd {C : Ctx} {o : Oper} {σ : St} {T : TypeId} {x y : Operand} {k : TK} {sz by_ : Nat} {ob g n ty i : Nat} {l : List Kd} {c : Crt} (ho : o.op = .store T x y) (hT : TI C.P T k sz by_) (hdst : o.dst = none) (hx : σ.look x = .o (.ptr ob g (i * 10 + 1))) (hy : σ.look y = .a (cL c.1 c.2 false)) (hm : σ.mem ob = (n, some (.buf ty 10 (l.map kR)))) (hs : sz = 9) (hn : n = g + 1) (hi : i < l.length) :
    LOp C o σ ⟨.un, [(ob, (n, some (.buf ty 10 ((l.set i ((l.getD i default).1, c)).map kR))))]⟩ (fun z => z == ob) := by
  have hg : (l.map kR)[i]? = some (kR (l.getD i default)) := by rw [List.getElem?_map, List.getElem?_eq_getElem hi, getD_at hi]; rfl
  have := lop_store_rowp (C := C) (o := o) (d := 1) (part := (kR ((l.getD i default).1, c)).drop 1) ho hdst hx hy rfl (by rw [hs]; rfl) hm hn hg (by omega)
  rw [hs] at this
  have e : (kR (l.getD i default)).take 1 ++ (kR ((l.getD i default).1, c)).drop 1 ++ (kR (l.getD i default)).drop (1 + 9) = kR ((l.getD i default).1, c) := rfl
  rwa [e, ← List.map_set] at this
theorem setK_len (l : List Kd) (k : List Nat) (c : Crt) : (setK l k c).length = l.length := List.length_map _
theorem setK_id {l : List Kd} {k : List Nat} {c : Crt} (h : hasK l k = false) : setK l k c = l := by
  have hno : ∀ e ∈ l, e.1 ≠ k := fun e he q => by
    have := hasK_iff.2 ⟨e, he, q⟩
    rw [h] at this; cases this
  unfold setK
  conv => rhs; rw [← List.map_id l]
  exact List.map_congr_left fun e he => by rw [if_neg (hno e he)]; rfl
theorem hasK_step {l : List Kd} {k : List Nat} {i : Nat} (h : i < l.length) : hasK (l.take (i + 1)) k = (hasK (l.take i) k || decide ((l.getD i default).1 = k)) := by
  unfold hasK
  rw [List.take_succ_eq_append_getElem h, List.any_append, getD_at h]; simp
theorem cur_at {l : List Kd} {k : List Nat} {c : Crt} {i : Nat} (h : i < l.length) : (setK (l.take i) k c ++ l.drop i).getD i default = l.getD i default := by
  have hl : (setK (l.take i) k c).length = i := by rw [setK_len, List.length_take]; omega
  rw [List.getD_eq_getElem?_getD, List.getElem?_append_right (by omega), hl, Nat.sub_self, List.getElem?_drop, Nat.add_zero, ← List.getD_eq_getElem?_getD]
theorem cur_len (l : List Kd) (k : List Nat) (c : Crt) {i : Nat} (h : i ≤ l.length) : (setK (l.take i) k c ++ l.drop i).length = l.length := by
  rw [List.length_append, setK_len, List.length_take, List.length_drop]; omega
theorem cur_step {l : List Kd} {k : List Nat} {c : Crt} {i : Nat} (h : i < l.length) : setK (l.take (i + 1)) k c ++ l.drop (i + 1) = if (l.getD i default).1 = k then (setK (l.take i) k c ++ l.drop i).set i ((l.getD i default).1, c) else setK (l.take i) k c ++ l.drop i := by
  have hl : (setK (l.take i) k c).length = i := by rw [setK_len, List.length_take]; omega
  have e1 : setK (l.take (i + 1)) k c = setK (l.take i) k c ++ [if (l.getD i default).1 = k then ((l.getD i default).1, c) else l.getD i default] := by
    unfold setK
    rw [List.take_succ_eq_append_getElem h, List.map_append, getD_at h]; rfl
  have e2 : l.drop i = l.getD i default :: l.drop (i + 1) := by rw [List.drop_eq_getElem_cons h, getD_at h]
  rw [e1]
  split
  · rw [e2, List.set_append_right _ _ (by omega), hl, Nat.sub_self, List.set_cons_zero, List.append_assoc]; rfl
  · conv => rhs; rw [e2]
    rw [List.append_assoc]; rfl
theorem gt_is {k : List Nat} : ∀ {l : List Kd} {i : Nat}, i < l.length → bLt k (l.getD i default).1 = true → (∀ j, j < i → bLt k (l.getD j default).1 = false) → gtI l k = i
  | [], i, h, _, _ => absurd h (Nat.not_lt_zero _)
  | e :: l, 0, h, hk, _ => by
    have hk' : bLt k e.1 = true := hk
    rw [gtI, if_pos hk']
  | e :: l, i + 1, h, hk, hno => by
    have h0 : bLt k e.1 = false := hno 0 (by omega)
    rw [gtI, if_neg (by rw [h0]; simp), gt_is (l := l) (i := i) (by simpa using h) hk fun j hj => hno (j + 1) (by omega)]
theorem gt_none {k : List Nat} : ∀ {l : List Kd}, (∀ j, j < l.length → bLt k (l.getD j default).1 = false) → gtI l k = l.length
  | [], _ => rfl
  | e :: l, hno => by
    have h0 : bLt k e.1 = false := hno 0 (by simp)
    rw [gtI, if_neg (by rw [h0]; simp), gt_none (l := l) fun j hj => hno (j + 1) (by simpa using hj)]; rfl
namespace WE
theorem lopC {C : Ctx} {o : Oper} {σ : St} {e : Eff} {ro : Nat → Bool} (h : LOp C o σ e ro := by
    first | (apply lop_lend2; (focus rfl); (focus exact inferInstance); (focus rfl); (focus rfl); (focus rfl); (focus exact (List.length_map ..).symm); (focus first | exact lk_m1 rfl | exact lk_m2 rfl | exact lk_m3 rfl | exact lk_o rfl | exact lk_a2 rfl | exact lk_a3 rfl | exact lk_a4 rfl | exact lk_a1 rfl | exact lk_a5 rfl | exact lk_a6 rfl | exact lk_a7 rfl | exact lk_a8 rfl | exact lk_a rfl); (focus exact inferInstance); (focus exact inferInstance); (focus first | exact True.intro | assumption | rfl | omega | ((repeat' (first | assumption | refine And.intro ?_ ?_ | omega | rfl)); done) | fail); (focus exact RV.v); (focus rfl)) | exact WD.lopC | fail) : LOp C o σ e ro := h
section steps
variable {C : Ctx} {ops : Array Oper} {o : Oper} {rest : List Oper} {K : St → Prop} {σ : St} {e : Eff} {ro : Nat → Bool} {W : List (Nat × Nat)} {i : Nat}
theorem rnC {d : Nat} (hk : RunN C ops rest K (e.app (some d) σ)) (hg : Guard ops σ o true := by first | exact gd_n rfl rfl | exact gd_t rfl rfl rfl rfl | exact gd_t rfl rfl rfl (by assumption)) (hd : o.dst = some d := by rfl) (h : LOp C o σ e ro := by exact lopC) : RunN C ops (o :: rest) K σ := rn_any hg hd h hk
theorem rkC {d : Nat} (hk : RunK C ops W (i + 1) rest K (e.app (some d) σ)) (hg : Guard ops σ o true := by first | exact gd_n rfl rfl | exact gd_t rfl rfl rfl rfl | exact gd_t rfl rfl rfl (by assumption)) (hd' : o.dst = some d := by rfl) (hd : dOk C o.dst = true := by rfl) (h : LOp C o σ e ro := by exact lopC)
    (hro : ∀ x, ro x = true → okObj ops W i x = true := by first | exact fun _ => ro_none | exact ro_one rfl | exact ro_k1 rfl | exact ro_one (by kernel_rfl) | exact ro_k1 (by kernel_rfl) | exact ro_kIn (by decide)) (hob : ∀ p ∈ e.obj, (i, p.1) ∈ W := by first | exact ob_none | exact ob_one (by decide) | decide) : RunK C ops W i (o :: rest) K σ := rk_wr hg hd' hd h hro hob hk
end steps
end WE
open WE
theorem cloneE_w (l : List Ent) (ex : Bool) (h : l.length ≤ 1000000) : PCall Try.prog 46 [.p (.sl 4 (l.map eR) ex)] (.p (.sl 4 (l.map eR) false)) := by
  refine pcall_of Try.func46 rfl (fun w0 F S0 M0 => ?_)
  as_aux_lemma =>
    repeat' (first | refine rnC ?_ | refine rnSB ?_ | refine rnG ?_ | refine rnU ?_ | ((fail_if_success (refine rnKn ?_)); refine rnP ?_ ?_ <;> (intro hq; try (have hq' := hq; simp only [hqs] at hq'))) | refine rkC ?_ | refine rkSB ?_ | refine rkF ?_ | refine rkU ?_ | ((fail_if_success (refine rkKn ?_)); refine rkP ?_ ?_ <;> (intro hq; try (have hq' := hq; simp only [hqs] at hq'))) | refine stp ?_ | refine ifT ?_ | refine ifF ?_ | (refine ifQ ?_ ?_ <;> (try (intro hn))) | (refine ifB ?_ ?_ <;> (intro hq; try (have hq' := hq; simp only [hqs] at hq'))))
    · have e : l = [] := List.eq_nil_of_length_eq_zero (by have := congrArg List.length hn; rwa [List.length_map, List.length_nil] at this)
      subst e
      exact rt1 rfl rfl (.one .nil) rfl
    · exact rt1 rfl rfl finS_p rfl
theorem with_w (l : List Kd) (ex : Bool) (x : Kd) (ex2 : Bool) (hl : l.length ≤ 100000) (hin : ∀ k ∈ l, okB k.1) (hk : okB x.1) (hc : x.2.2.length ≤ 1000000) : PCall Try.prog 23 [.p (.sl 10 (l.map kR) ex), .p (.v (.string (strOf x.1))), cV x.2.1 x.2.2 ex2] (.p (.sl 10 ((withK l x.1 x.2).map kR) false)) := by
  refine pcall_of Try.func23 rfl (fun w0 F S0 M0 => ?_)
  haveI : PC Try.prog 46 [.p (.sl 4 (x.2.2.map eR) ex2)] True (.p (.sl 4 (x.2.2.map eR) false)) := ⟨fun _ => cloneE_w _ _ hc⟩
  obtain ⟨A, hA⟩ : ∃ A, A = idxK (fun e => bLt x.1 e.1) l 0 l.length := ⟨_, rfl⟩
  haveI : PC Try.prog 28 [.p (.sl 10 (l.map kR) false), .p (.fnv 48 [.bx [.v (.string (strOf x.1))] 0])] True (.p (.i A)) := ⟨fun _ => by rw [hA]; exact indexFuncK_w _ _ inferInstance (fun e => bLt x.1 e.1) l false (by omega) fun e he => with1_w e x.1 (hin e he) hk⟩
  repeat' (first | refine rnC ?_ | refine rnSB ?_ | refine rnG ?_ | refine rnU ?_ | ((fail_if_success (refine rnKn ?_)); refine rnP ?_ ?_ <;> (intro hq; try (have hq' := hq; simp only [hqs] at hq'))) | refine rkC ?_ | refine rkSB ?_ | refine rkF ?_ | refine rkU ?_ | ((fail_if_success (refine rkKn ?_)); refine rkP ?_ ?_ <;> (intro hq; try (have hq' := hq; simp only [hqs] at hq'))) | refine stp ?_ | refine ifT ?_ | refine ifF ?_ | (refine ifQ ?_ ?_ <;> (try (intro hn))) | (refine ifB ?_ ?_ <;> (intro hq; try (have hq' := hq; simp only [hqs] at hq'))))
  refine aws_loopS [8, 9, 19, 20, 21, 22, 23, 24, 25, 26, 27, 28, 29, 30, 31, 32, 33, 34] [16] (fun (y : Nat × List Kd × Bool) => [(19, .p (.i y.1)), (8, .p (.b y.2.2))]) (fun y => [(16, (2, some (.buf 36 10 (y.2.1.map kR))))]) (fun y => y.1 ≤ l.length ∧ y.2.1 = setK (l.take y.1) x.1 x.2 ++ l.drop y.1 ∧ y.2.2 = hasK (l.take y.1) x.1) (fun y => l.length - y.1) (0, l, false) ⟨Nat.zero_le _, rfl, rfl⟩ (by exact knA) (by exact knA) ?_
  rintro ⟨i, cur, b⟩ β γ ⟨hi, hcur, hb⟩
  dsimp only at hi hcur hb ⊢
  have hcl : cur.length = l.length := by rw [hcur]; exact cur_len l x.1 x.2 hi
  by_cases hil : i < l.length
  · have d1 : decide ((i : Int) < (l.length : Int)) = true := decide_eq_true (by omega)
    have ei : (i : Int).toNat = i := Int.toNat_natCast i
    have hg : cur.getD (i : Int).toNat default = l.getD i default := by rw [ei, hcur]; exact cur_at hil
    have okc : okB (cur.getD (i : Int).toNat default).1 := by rw [hg, getD_at hil]; exact hin _ (List.getElem_mem _)
    have hst := cur_step (k := x.1) (c := x.2) hil
    have hbs := hasK_step (k := x.1) hil
    rw [← hcur] at hst
    rw [← hb] at hbs
    rw [← hg] at hst hbs
    by_cases he : (cur.getD (i : Int).toNat default).1 = x.1
    · have d2 : decide ((cur.getD (i : Int).toNat default).1 = x.1) = true := decide_eq_true he
      rw [if_pos he] at hst
      rw [d2, Bool.or_true] at hbs
      repeat' (first | refine rnC ?_ | refine rnSB ?_ | refine rnG ?_ | refine rnU ?_ | ((fail_if_success (refine rnKn ?_)); refine rnP ?_ ?_ <;> (intro hq; try (have hq' := hq; simp only [hqs] at hq'))) | refine rkC ?_ | refine rkSB ?_ | refine rkF ?_ | refine rkU ?_ | ((fail_if_success (refine rkKn ?_)); refine rkP ?_ ?_ <;> (intro hq; try (have hq' := hq; simp only [hqs] at hq'))) | refine stp ?_ | refine aws_draws [] mixed (by kernel_rfl) ?_ | refine ifT ?_ | refine ifF ?_ | (refine ifQ ?_ ?_ <;> (try (intro hn))) | (refine ifB ?_ ?_ <;> (intro hq; try (have hq' := hq; simp only [hqs] at hq'))))
      refine rn_sto (gd_n rfl rfl) rfl (lop_st_kd (ob := 16) (i := (i : Int).toNat) (c := x.2) rfl inferInstance rfl rfl rfl rfl rfl rfl (by omega)) ?_
      as_aux_lemma =>
        repeat' (first | refine rnC ?_ | refine rnSB ?_ | refine rnG ?_ | refine rnU ?_ | ((fail_if_success (refine rnKn ?_)); refine rnP ?_ ?_ <;> (intro hq; try (have hq' := hq; simp only [hqs] at hq'))) | refine rkC ?_ | refine rkSB ?_ | refine rkF ?_ | refine rkU ?_ | ((fail_if_success (refine rkKn ?_)); refine rkP ?_ ?_ <;> (intro hq; try (have hq' := hq; simp only [hqs] at hq'))) | refine stp ?_ | refine ifT ?_ | refine ifF ?_ | (refine ifQ ?_ ?_ <;> (try (intro hn))) | (refine ifB ?_ ?_ <;> (intro hq; try (have hq' := hq; simp only [hqs] at hq'))))
        exact ⟨(i + 1, cur.set (i : Int).toNat ((cur.getD (i : Int).toNat default).1, x.2), true), _, by dsimp only; omega, ⟨by dsimp only; omega, by dsimp only; rw [hst, ei], hbs.symm⟩, .refl, by exact frA⟩
    · have d2 : decide ((cur.getD (i : Int).toNat default).1 = x.1) = false := decide_eq_false he
      rw [if_neg he] at hst
      rw [d2, Bool.or_false] at hbs
      as_aux_lemma =>
        repeat' (first | refine rnC ?_ | refine rnSB ?_ | refine rnG ?_ | refine rnU ?_ | ((fail_if_success (refine rnKn ?_)); refine rnP ?_ ?_ <;> (intro hq; try (have hq' := hq; simp only [hqs] at hq'))) | refine rkC ?_ | refine rkSB ?_ | refine rkF ?_ | refine rkU ?_ | ((fail_if_success (refine rkKn ?_)); refine rkP ?_ ?_ <;> (intro hq; try (have hq' := hq; simp only [hqs] at hq'))) | refine stp ?_ | refine aws_draws [] mixed (by kernel_rfl) ?_ | refine ifT ?_ | refine ifF ?_ | (refine ifQ ?_ ?_ <;> (try (intro hn))) | (refine ifB ?_ ?_ <;> (intro hq; try (have hq' := hq; simp only [hqs] at hq'))))
        exact ⟨(i + 1, cur, b), _, by dsimp only; omega, ⟨by dsimp only; omega, hst.symm, hbs.symm⟩, .refl, by exact frA⟩
  · have d1 : decide ((i : Int) < (l.length : Int)) = false := decide_eq_false (by omega)
    obtain rfl : i = l.length := by omega
    rw [List.take_length, List.drop_length, List.append_nil] at hcur
    rw [List.take_length] at hb
    unfold withK
    cases b with
    | true =>
      rw [if_pos hb.symm, ← hcur]
      clear hcur hA hin
      as_aux_lemma =>
        repeat' (first | refine rnC ?_ | refine rnSB ?_ | refine rnG ?_ | refine rnU ?_ | ((fail_if_success (refine rnKn ?_)); refine rnP ?_ ?_ <;> (intro hq; try (have hq' := hq; simp only [hqs] at hq'))) | refine rkC ?_ | refine rkSB ?_ | refine rkF ?_ | refine rkU ?_ | ((fail_if_success (refine rkKn ?_)); refine rkP ?_ ?_ <;> (intro hq; try (have hq' := hq; simp only [hqs] at hq'))) | refine stp ?_ | refine aws_draws [] mixed (by kernel_rfl) ?_ | refine ifT ?_ | refine ifF ?_ | (refine ifQ ?_ ?_ <;> (try (intro hn))) | (refine ifB ?_ ?_ <;> (intro hq; try (have hq' := hq; simp only [hqs] at hq'))))
        exact rt1 rfl rfl (.one (finC_map rfl rfl rfl (by omega))) rfl
    | false =>
      rw [if_neg (by rw [← hb]; simp)]
      rw [setK_id hb.symm] at hcur
      subst hcur
      have hin1 : ∀ j, j < cur.length → okB (cur.getD j default).1 := fun j hj => by rw [getD_at hj]; exact hin _ (List.getElem_mem _)
      have ins : ∀ i0 : Nat, i0 ≤ cur.length → OCAt Try.prog 49 [.o (.osl 16 1 10 0 cur.length), .p (.i (i0 : Int)), .o (.osl 49 0 10 0 1)] [(16, (2, some (.buf 36 10 (cur.map kR)))), (49, (1, some (.buf 36 10 [kR x])))] [] (.o (.osl 16 2 10 0 (cur.take i0 ++ x :: cur.drop i0).length)) [(16, (3, some (.buf 36 10 ((cur.take i0 ++ x :: cur.drop i0).map kR)))), (49, (1, some (.buf 36 10 [kR x])))] := fun i0 h0 => (insert_o 1 0 cur x i0 h0 (by omega)).two 16 49 (by decide)
      rcases idxK_found (p := fun e => bLt x.1 e.1) (l := cur) cur.length 0 (by omega) with ⟨h1, h2⟩ | ⟨i0, h1, -, h3, h4, h5⟩
      · rw [← hA] at h1
        rw [gt_none fun j hj => h2 j (Nat.zero_le _) hj]
        have hI := ins cur.length (Nat.le_refl _)
        have d2 : decide (A < 0) = true := decide_eq_true (by omega)
        clear hA h2 hin hin1 ins h1
        repeat' (first | refine rnC ?_ | refine rnSB ?_ | refine rnG ?_ | refine rnU ?_ | ((fail_if_success (refine rnKn ?_)); refine rnP ?_ ?_ <;> (intro hq; try (have hq' := hq; simp only [hqs] at hq'))) | refine rkC ?_ | refine rkSB ?_ | refine rkF ?_ | refine rkU ?_ | ((fail_if_success (refine rkKn ?_)); refine rkP ?_ ?_ <;> (intro hq; try (have hq' := hq; simp only [hqs] at hq'))) | refine stp ?_ | refine ifT ?_ | refine ifF ?_ | (refine ifQ ?_ ?_ <;> (try (intro hn))) | (refine ifB ?_ ?_ <;> (intro hq; try (have hq' := hq; simp only [hqs] at hq'))))
        refine rn_any (gd_n rfl rfl) rfl (lop_ocall rfl inferInstance (.cons rfl (.cons rfl (.cons rfl .nil))) hI (by intro p hp; simp only [List.mem_cons, List.not_mem_nil, or_false] at hp; rcases hp with rfl | rfl <;> rfl) (by intro p hp; cases hp) (by intro p hp; simp only [List.mem_cons, List.not_mem_nil, or_false] at hp; rcases hp with rfl | rfl <;> rfl) (by intro p hp; cases hp) rfl) ?_
        as_aux_lemma =>
          repeat' (first | refine rnC ?_ | refine rnSB ?_ | refine rnG ?_ | refine rnU ?_ | ((fail_if_success (refine rnKn ?_)); refine rnP ?_ ?_ <;> (intro hq; try (have hq' := hq; simp only [hqs] at hq'))) | refine rkC ?_ | refine rkSB ?_ | refine rkF ?_ | refine rkU ?_ | ((fail_if_success (refine rkKn ?_)); refine rkP ?_ ?_ <;> (intro hq; try (have hq' := hq; simp only [hqs] at hq'))) | refine stp ?_ | refine ifT ?_ | refine ifF ?_ | (refine ifQ ?_ ?_ <;> (try (intro hn))) | (refine ifB ?_ ?_ <;> (intro hq; try (have hq' := hq; simp only [hqs] at hq'))))
          exact rt1 rfl rfl (.one (finC_map rfl rfl rfl rfl)) rfl
      · rw [← hA] at h1
        rw [gt_is h3 h4 fun j hj => h5 j (Nat.zero_le _) hj]
        have hI := ins i0 (by omega)
        clear hA h4 h5 hin hin1 ins
        subst h1
        have d2 : decide ((i0 : Int) < 0) = false := decide_eq_false (by omega)
        repeat' (first | refine rnC ?_ | refine rnSB ?_ | refine rnG ?_ | refine rnU ?_ | ((fail_if_success (refine rnKn ?_)); refine rnP ?_ ?_ <;> (intro hq; try (have hq' := hq; simp only [hqs] at hq'))) | refine rkC ?_ | refine rkSB ?_ | refine rkF ?_ | refine rkU ?_ | ((fail_if_success (refine rkKn ?_)); refine rkP ?_ ?_ <;> (intro hq; try (have hq' := hq; simp only [hqs] at hq'))) | refine stp ?_ | refine ifT ?_ | refine ifF ?_ | (refine ifQ ?_ ?_ <;> (try (intro hn))) | (refine ifB ?_ ?_ <;> (intro hq; try (have hq' := hq; simp only [hqs] at hq'))))
        refine rn_any (gd_n rfl rfl) rfl (lop_ocall rfl inferInstance (.cons rfl (.cons rfl (.cons rfl .nil))) hI (by intro p hp; simp only [List.mem_cons, List.not_mem_nil, or_false] at hp; rcases hp with rfl | rfl <;> rfl) (by intro p hp; cases hp) (by intro p hp; simp only [List.mem_cons, List.not_mem_nil, or_false] at hp; rcases hp with rfl | rfl <;> rfl) (by intro p hp; cases hp) rfl) ?_
        as_aux_lemma =>
          repeat' (first | refine rnC ?_ | refine rnSB ?_ | refine rnG ?_ | refine rnU ?_ | ((fail_if_success (refine rnKn ?_)); refine rnP ?_ ?_ <;> (intro hq; try (have hq' := hq; simp only [hqs] at hq'))) | refine rkC ?_ | refine rkSB ?_ | refine rkF ?_ | refine rkU ?_ | ((fail_if_success (refine rkKn ?_)); refine rkP ?_ ?_ <;> (intro hq; try (have hq' := hq; simp only [hqs] at hq'))) | refine stp ?_ | refine ifT ?_ | refine ifF ?_ | (refine ifQ ?_ ?_ <;> (try (intro hn))) | (refine ifB ?_ ?_ <;> (intro hq; try (have hq' := hq; simp only [hqs] at hq'))))
          exact rt1 rfl rfl (.one (finC_map rfl rfl rfl rfl)) rfl
end Go.Proofs.Ytbfjcohocedoaaa.Wi
namespace Go.Proofs.Ytbfjcohocedoaaa.Wi
open Go Go.RowKit Go.Aw Go.Aw.Cart Go.Proofs.Ytbfjcohocedoaaa.Ca Go.Proofs.Ytbfjcohocedoaaa.Rg
set_option linter.unusedVariables false
set_option linter.unusedSimpArgs false
set_option maxRecDepth 8000
set_option maxHeartbeats 4000000
open WE
theorem with_allB {P : Kd → Prop} {l : List Kd} {k : List Nat} {c : Crt} (h : ∀ e ∈ l, P e) (hs : ∀ e ∈ l, e.1 = k → P (e.1, c)) (hk : P (k, c)) : ∀ e ∈ withK l k c, P e := by
  intro e he
  unfold withK at he
  split at he
  · unfold setK at he
    obtain ⟨x, hx, rfl⟩ := List.mem_map.1 he
    by_cases q : x.1 = k
    · rw [if_pos q]; exact hs x hx q
    · rw [if_neg q]; exact h x hx
  · rcases List.mem_append.1 he with q | q
    · exact h e (List.mem_of_mem_take q)
    · rcases List.mem_cons.1 q with q | q
      · rw [q]; exact hk
      · exact h e (List.mem_of_mem_drop q)
theorem right_big (v : List Int) (l : List Ent) (ex : Bool) (h : 400 < l.length) (hm : l.length ≤ 9223372036854775807) : PCall Try.prog 22 [cV v l ex] (.p (.b false)) := by
  refine pcall_of Try.func22 rfl (fun w0 F S0 M0 => ?_)
  have d0 : decide (400 < (l.length : Int)) = true := decide_eq_true (by omega)
  as_aux_lemma =>
    repeat' (first | refine rnC ?_ | refine rnSB ?_ | refine rnG ?_ | refine rnU ?_ | refine rkC ?_ | refine rkSB ?_ | refine rkF ?_ | refine rkU ?_ | refine stp ?_ | refine aws_draws [] mixed (by kernel_rfl) ?_ | refine ifT ?_ | refine ifF ?_ | fail)
    exact rt1 rfl rfl finS_p rfl
theorem lvTo_one {p : Nat → Bool} {j : Nat} : ∀ {k : Nat}, j < k → (∀ i, i < k → p i = decide (i = j)) → lvTo p k = [(j : Int)]
  | k + 1, hj, h => by
    rw [lvTo]
    by_cases q : k = j
    · rw [if_pos (by rw [h k (Nat.lt_succ_self k)]; exact decide_eq_true q), lvTo_none k fun i hi => by rw [h i (by omega)]; exact decide_eq_false (by omega), q]; rfl
    · rw [if_neg (by rw [h k (Nat.lt_succ_self k), decide_eq_false q]; simp)]
      exact lvTo_one (by omega) fun i hi => h i (by omega)
/-- what another cart of one key turns -/
theorem puts_law {l m : List Kd} (hl : LIn l) (hm : LIn m) (rl : keysF l = true) (rm : keysF m = true) {k : List Nat} (hk : keyR k = true) (ho : ∀ o, o ≠ k → findK m o = findK l o) (part : Int) :
    unlF l m part = if (partF k : Int) = part ∧ (findK l k).1 ≠ (findK m k).1 then [(leafF k : Int)] else [] := by
  by_cases hp : (partF k : Int) = part
  · subst hp
    by_cases hs : (findK l k).1 = (findK m k).1
    · rw [if_neg (fun x => x.2 hs)]
      refine (unl_nil hl hm _).2 fun j hj => ?_
      by_cases q : leafF k = j
      · subst q; exact (bkt_own rl rm hk ho).2 hs
      · exact bkt_other rl rm ho hj fun x => q x.2
    · rw [if_pos ⟨rfl, hs⟩]
      refine lvTo_one (leaf_lt k) fun j hj => ?_
      by_cases q : j = leafF k
      · subst q
        rw [decide_eq_true rfl, decide_eq_false fun x => hs ((bkt_own rl rm hk ho).1 ((tx_iff hl hm _ hj).1 x))]; rfl
      · rw [decide_eq_false q, decide_eq_true ((tx_iff hl hm _ hj).2 (bkt_other rl rm ho hj fun x => q x.2.symm))]; rfl
  · rw [if_neg (fun x => hp x.1)]
    exact (unl_nil hl hm _).2 fun j hj => bkt_other rl rm ho hj fun x => hp x.1
theorem bucketPuts_w (l : List Kd) (key : List Nat) (v : List Int) (m : List Ent) (ex ey : Bool) (hl : l.length ≤ 9223372036854775807) (hin : ∀ k ∈ l, KdI k) (hk : okB key) (hkl : key.length ≤ 9223372036854775807) (hv : vecOk v) (hm : m.length ≤ 9223372036854775807) : PCall Try.prog 7 [.p (.sl 10 (l.map kR) ex), .p (.v (.string (strOf key))), cV v m ey] (.p (.b true)) := by
  refine pcall_of Try.func7 rfl (fun w0 F S0 M0 => ?_)
  have c0 := pgreat_w l ex hl
  cases hg : greatL l with
  | true =>
    rw [hg] at c0
    haveI : PC Try.prog 8 [.p (.sl 10 (l.map kR) ex)] True (.p (.b true)) := ⟨fun _ => c0⟩
    as_aux_lemma =>
      repeat' (first | refine rnC ?_ | refine rnSB ?_ | refine rnG ?_ | refine rnU ?_ | refine rkC ?_ | refine rkSB ?_ | refine rkF ?_ | refine rkU ?_ | refine stp ?_ | refine ifT ?_ | refine ifF ?_ | fail)
      exact rt1 rfl rfl finS_p rfl
  | false =>
  rw [hg] at c0
  haveI : PC Try.prog 8 [.p (.sl 10 (l.map kR) ex)] True (.p (.b false)) := ⟨fun _ => c0⟩
  have hL := lin_of hg hin hl
  obtain ⟨h30, hkd⟩ := greatL_no hg
  have c2 := pright_w l ex (by omega) hin hL.few
  cases hR : keysF l with
  | false =>
    rw [hR] at c2
    haveI : PC Try.prog 9 [.p (.sl 10 (l.map kR) ex)] True (.p (.b false)) := ⟨fun _ => c2⟩
    as_aux_lemma =>
      repeat' (first | refine rnC ?_ | refine rnSB ?_ | refine rnG ?_ | refine rnU ?_ | refine rkC ?_ | refine rkSB ?_ | refine rkF ?_ | refine rkU ?_ | refine stp ?_ | refine ifT ?_ | refine ifF ?_ | fail)
      exact rt1 rfl rfl finS_p rfl
  | true =>
  rw [hR] at c2
  haveI : PC Try.prog 9 [.p (.sl 10 (l.map kR) ex)] True (.p (.b true)) := ⟨fun _ => c2⟩
  have c3 := keyRightL_w key hk hkl
  cases hK : keyR key with
  | false =>
    rw [hK] at c3
    haveI : PC Try.prog 13 [.p (.v (.string (strOf key)))] True (.p (.b false)) := ⟨fun _ => c3⟩
    as_aux_lemma =>
      repeat' (first | refine rnC ?_ | refine rnSB ?_ | refine rnG ?_ | refine rnU ?_ | refine rkC ?_ | refine rkSB ?_ | refine rkF ?_ | refine rkU ?_ | refine stp ?_ | refine ifT ?_ | refine ifF ?_ | fail)
      exact rt1 rfl rfl finS_p rfl
  | true =>
  rw [hK] at c3
  haveI : PC Try.prog 13 [.p (.v (.string (strOf key)))] True (.p (.b true)) := ⟨fun _ => c3⟩
  by_cases hbig : 1000000000 < m.length
  · haveI : PC Try.prog 22 [cV v m ey] True (.p (.b false)) := ⟨fun _ => right_big v m ey (by omega) hm⟩
    as_aux_lemma =>
      repeat' (first | refine rnC ?_ | refine rnSB ?_ | refine rnG ?_ | refine rnU ?_ | refine rkC ?_ | refine rkSB ?_ | refine rkF ?_ | refine rkU ?_ | refine stp ?_ | refine ifT ?_ | refine ifF ?_ | fail)
      exact rt1 rfl rfl finS_p rfl
  have c1 := right_w v m ey hv.1 (by omega)
  cases hr : rightF v m with
  | false =>
    rw [hr] at c1
    haveI : PC Try.prog 22 [cV v m ey] True (.p (.b false)) := ⟨fun _ => c1⟩
    as_aux_lemma =>
      repeat' (first | refine rnC ?_ | refine rnSB ?_ | refine rnG ?_ | refine rnU ?_ | refine rkC ?_ | refine rkSB ?_ | refine rkF ?_ | refine rkU ?_ | refine stp ?_ | refine ifT ?_ | refine ifF ?_ | fail)
      exact rt1 rfl rfl finS_p rfl
  | true =>
  rw [hr] at c1
  haveI : PC Try.prog 22 [cV v m ey] True (.p (.b true)) := ⟨fun _ => c1⟩
  by_cases h60 : 60 < m.length
  · have d3 : decide (60 < (m.length : Int)) = true := decide_eq_true (by omega)
    as_aux_lemma =>
      repeat' (first | refine rnC ?_ | refine rnSB ?_ | refine rnG ?_ | refine rnU ?_ | refine rkC ?_ | refine rkSB ?_ | refine rkF ?_ | refine rkU ?_ | refine stp ?_ | refine ifT ?_ | refine ifF ?_ | fail)
      exact rt1 rfl rfl finS_p rfl
  have d3 : decide (60 < (m.length : Int)) = false := decide_eq_false (by omega)
  have hok : KOk l := keys_iff.1 hR
  have hk20 : key.length ≤ 20 := by
    have h := hK
    unfold keyR at h
    exact (of_decide_eq_true h).1.2
  have c4 := with_w l ex (key, (v, m)) ey (by omega) (fun k hk => (hin k hk).key) hk (by show m.length ≤ _; omega)
  dsimp only at c4
  have kM : KOk (withK l key (v, m)) := with_ok hok (by omega) (by omega) hr
  have iM : LIn (withK l key (v, m)) := ⟨by have := (with_len_le l key (v, m)).2; omega,
    with_allB hin (fun e he q => ⟨(hin e he).key, (hin e he).len, hv, hm⟩) ⟨hk, hkl, hv, hm⟩,
    with_allB (fun e he => hL.few e he) (fun e he q => by show m.length ≤ _; omega) (by show m.length ≤ _; omega)⟩
  have f1 : findK (withK l key (v, m)) key = ((v, m), true) := with_find
  have law := puts_law hL iM hR (keys_iff.2 kM) hK (fun o h => with_other h)
  rw [f1] at law
  generalize withK l key (v, m) = M at c4 kM iM f1 law
  haveI : PC Try.prog 23 [.p (.sl 10 (l.map kR) ex), .p (.v (.string (strOf key))), cV v m ey] True (.p (.sl 10 (M.map kR) false)) := ⟨fun _ => c4⟩
  have c5 := find_w l ex key (by omega) (fun k hk => (hin k hk).key) hk
  have f4 := find_in hL key
  generalize findK l key = r at c5 f4 law
  obtain ⟨⟨x, xs⟩, bx⟩ := r
  dsimp only at c5 f4 law
  haveI : PC Try.prog 12 [.p (.sl 10 (l.map kR) ex), .p (.v (.string (strOf key)))] True (.tup [.agg (cL x xs false), .one (.p (.b bx))]) := ⟨fun _ => c5⟩
  have c6 := same_w x v xs m false ey f4.1 hv.1 f4.2
  have hsm : sameF x v xs m = decide (((x, xs) : Crt) = (v, m)) := by
    rw [Bool.eq_iff_iff, decide_eq_true_iff, Prod.mk.injEq]
    unfold sameF
    rw [Bool.and_eq_true, decide_eq_true_iff, decide_eq_true_iff]
  rw [hsm] at c6
  have k6 : key.length ≤ 1000000 := by omega
  haveI : PC Try.prog 16 [.p (.v (.string (strOf key)))] True (.p (.i (partF key : Int))) := ⟨fun _ => keyPart_w key hk k6⟩
  haveI : PC Try.prog 17 [.p (.v (.string (strOf key)))] True (.p (.i (leafF key : Int))) := ⟨fun _ => keyLeaf_w key hk k6⟩
  have cU : ∀ i : Nat, PCall Try.prog 11 [.p (.sl 10 (l.map kR) ex), .p (.sl 10 (M.map kR) false), .p (.i (i : Int))] (.p (.sl 1 ((unlF l M (i : Int)).map fun n => [PVal.i n]) false)) := fun i => unlike_w l M ex false i hL iM
  generalize partF key = P at *
  generalize leafF key = F at *
  clear c0 c1 c2 c3 c4 c5 f1 kM iM hL hok hsm hkd hin
  repeat' (first | refine rnC ?_ | refine rnSB ?_ | refine rnG ?_ | refine rnU ?_ | refine rkC ?_ | refine rkSB ?_ | refine rkF ?_ | refine rkU ?_ | refine stp ?_ | refine ifT ?_ | refine ifF ?_ | fail)
  refine aws_loopS [6, 10, 11, 46, 47, 48, 49, 50, 51, 52, 53, 54, 55, 56, 57, 58, 59, 60, 61, 62, 63, 64, 65, 66, 67, 68, 69, 70, 71, 72, 73, 74, 75, 76, 77, 78, 79, 80, 81, 82, 83, 84, 85, 86, 87, 88, 89, 90, 91, 92, 93, 94, 95] [] (fun (x : Nat) => [(10, .p (.i x))]) (fun _ => []) (fun x => x ≤ 8) (fun x => 8 - x) 0 (Nat.zero_le _) (by exact knA) (by exact knA) ?_
  rintro i β γ hi
  by_cases hil : i < 8
  · have d4 : decide ((i : Int) < 8) = true := decide_eq_true (by omega)
    have cUi := cU i
    have lawi := law (i : Int)
    clear cU law
    by_cases hp : P = i
    · have e1 : decide ((i : Int) ≠ (P : Int)) = false := decide_eq_false fun x => x (by omega)
      have e2 : decide ((i : Int) = (P : Int)) = true := decide_eq_true (by omega)
      by_cases hs : ((x, xs) : Crt) = (v, m)
      · rw [if_neg fun q => q.2 hs] at lawi
        rw [lawi] at cUi
        rw [decide_eq_true hs] at c6
        clear lawi
        obtain ⟨U, hU⟩ : ∃ U : List Int, U = [] := ⟨_, rfl⟩
        rw [← hU] at cUi
        have hUl : U.length = 0 := by rw [hU]; rfl
        have u1 : (true != decide ((U.length : Int) = 0)) = false := by rw [decide_eq_true (by omega)]; rfl
        have u2 : decide (1 < (U.length : Int)) = false := decide_eq_false (by omega)
        have u3 : decide ((U.length : Int) = 1) = false := decide_eq_false (by omega)
        haveI : PC Try.prog 14 [cV x xs false, cV v m ey] True (.p (.b true)) := ⟨fun _ => c6⟩
        haveI : PC Try.prog 11 [.p (.sl 10 (l.map kR) ex), .p (.sl 10 (M.map kR) false), .p (.i (i : Int))] True (.p (.sl 1 (U.map fun n => [PVal.i n]) false)) := ⟨fun _ => cUi⟩
        clear c6 cUi hU
        as_aux_lemma =>
          repeat' (first | refine rnC ?_ | refine rnSB ?_ | refine rnG ?_ | refine rnU ?_ | refine rkC ?_ | refine rkSB ?_ | refine rkF ?_ | refine rkU ?_ | refine stp ?_ | refine aws_draws [] mixed (by kernel_rfl) ?_ | refine ifT ?_ | refine ifF ?_ | fail)
          exact ⟨i + 1, _, by omega, by omega, .refl, by exact frA⟩
      · rw [if_pos ⟨by omega, hs⟩] at lawi
        rw [lawi] at cUi
        rw [decide_eq_false hs] at c6
        clear lawi
        obtain ⟨U, hU⟩ : ∃ U : List Int, U = [(F : Int)] := ⟨_, rfl⟩
        rw [← hU] at cUi
        have hUl : U.length = 1 := by rw [hU]; rfl
        have u1 : (false != decide ((U.length : Int) = 0)) = false := by rw [decide_eq_false (by omega)]; rfl
        have u2 : decide (1 < (U.length : Int)) = false := decide_eq_false (by omega)
        have u3 : decide ((U.length : Int) = 1) = true := decide_eq_true (by omega)
        have u4 : decide (U.getD (Int.toNat 0) default ≠ (F : Int)) = false := decide_eq_false fun q => q (by rw [hU]; rfl)
        haveI : PC Try.prog 14 [cV x xs false, cV v m ey] True (.p (.b false)) := ⟨fun _ => c6⟩
        haveI : PC Try.prog 11 [.p (.sl 10 (l.map kR) ex), .p (.sl 10 (M.map kR) false), .p (.i (i : Int))] True (.p (.sl 1 (U.map fun n => [PVal.i n]) false)) := ⟨fun _ => cUi⟩
        clear c6 cUi hU
        as_aux_lemma =>
          repeat' (first | refine rnC ?_ | refine rnSB ?_ | refine rnG ?_ | refine rnU ?_ | refine rkC ?_ | refine rkSB ?_ | refine rkF ?_ | refine rkU ?_ | refine stp ?_ | refine aws_draws [] mixed (by kernel_rfl) ?_ | refine ifT ?_ | refine ifF ?_ | fail)
          exact ⟨i + 1, _, by omega, by omega, .refl, by exact frA⟩
    · have e1 : decide ((i : Int) ≠ (P : Int)) = true := decide_eq_true fun x => hp (by omega)
      have e2 : decide ((i : Int) = (P : Int)) = false := decide_eq_false fun x => hp (by omega)
      rw [if_neg fun q => hp (by omega)] at lawi
      rw [lawi] at cUi
      clear lawi
      obtain ⟨U, hU⟩ : ∃ U : List Int, U = [] := ⟨_, rfl⟩
      rw [← hU] at cUi
      have hUl : U.length = 0 := by rw [hU]; rfl
      have u1 : decide (0 < (U.length : Int)) = false := decide_eq_false (by omega)
      have u2 : decide (1 < (U.length : Int)) = false := decide_eq_false (by omega)
      have u3 : decide ((U.length : Int) = 1) = false := decide_eq_false (by omega)
      haveI : PC Try.prog 11 [.p (.sl 10 (l.map kR) ex), .p (.sl 10 (M.map kR) false), .p (.i (i : Int))] True (.p (.sl 1 (U.map fun n => [PVal.i n]) false)) := ⟨fun _ => cUi⟩
      clear c6 cUi hU
      as_aux_lemma =>
        repeat' (first | refine rnC ?_ | refine rnSB ?_ | refine rnG ?_ | refine rnU ?_ | refine rkC ?_ | refine rkSB ?_ | refine rkF ?_ | refine rkU ?_ | refine stp ?_ | refine aws_draws [] mixed (by kernel_rfl) ?_ | refine ifT ?_ | refine ifF ?_ | fail)
        exact ⟨i + 1, _, by omega, by omega, .refl, by exact frA⟩
  · have d4 : decide ((i : Int) < 8) = false := decide_eq_false (by omega)
    as_aux_lemma =>
      repeat' (first | refine rnC ?_ | refine rnSB ?_ | refine rnG ?_ | refine rnU ?_ | refine rkC ?_ | refine rkSB ?_ | refine rkF ?_ | refine rkU ?_ | refine stp ?_ | refine ifT ?_ | refine ifF ?_ | fail)
      exact rt1 rfl rfl finS_p rfl
end Go.Proofs.Ytbfjcohocedoaaa.Wi
namespace Go.Proofs.Ytbfjcohocedoaaa.Wi
open Go Go.RowKit Go.Aw Go.Aw.Cart Go.Proofs.Ytbfjcohocedoaaa.Ca
set_option linter.unusedVariables false
set_option linter.unusedSimpArgs false
theorem bucketPuts_a (l : List Kd) (k : List Nat) (x : Crt) (h : l.length ≤ maxLen ∧ ∀ k ∈ l, KdI k) (hk : okB k ∧ k.length ≤ 9223372036854775807) (hx : CIn x) : PCall Try.prog 7 [argAV false [.sl 10 (l.map fun k => kR k) false], argAV false [.v (.string (strOf k))], argAV true (cRow x)] (.p (.b true)) := by
  rw [c_arg hx]; exact bucketPuts_w l k x.1 x.2 false false h.1 h.2 hk.1 hk.2 ⟨hx.v8, hx.vb⟩ hx.len
end Go.Proofs.Ytbfjcohocedoaaa.Wi
