/- THE ABSTRACT WALK, part 9: '==' between structs and arrays of plain cells. -/
import Derived.Test.YtbhcdkhejgkhaaaCoreH
namespace Go.Aw
open Go Go.RowKit
set_option linter.unusedVariables false
set_option linter.unusedSimpArgs false

/-- a plain cell's kind -/
inductive LK where
  | int (k : IntKind) | bool | str
def LK.has : LK → Value → Bool
  | .int k, .int k' _ => k == k'
  | .bool, .bool _ => true
  | .str, .string _ => true
  | _, _ => false
/-- plain cells, held against each other -/
def vEq : Value → Value → Bool
  | .int _ a, .int _ b => decide (a = b)
  | .bool a, .bool b => a == b
  | .string a, .string b => a.toList == b.toList
  | _, _ => false
def vEqB : List Value → List Value → Bool
  | [], [] => true
  | x :: xs, y :: ys => vEq x y && vEqB xs ys
  | _, _ => false
def HasL (lks : List LK) (xs : List Value) : Prop := All2 (fun l v => LK.has l v = true) lks xs

theorem vEqB_append : ∀ {a b c d : List Value}, a.length = c.length → vEqB (a ++ b) (c ++ d) = (vEqB a c && vEqB b d)
  | [], b, [], d, _ => by simp [vEqB]
  | x :: a, b, y :: c, d, h => by
    simp only [List.cons_append, vEqB]
    rw [vEqB_append (by simpa using h), Bool.and_assoc]
  | [], _, _ :: _, _, h => by simp at h
  | _ :: _, _, [], _, h => by simp at h

/-- the cells of a type whose values are held against each other cell by cell -/
def flatEq (P : Program) : Nat → TypeId → Option (List LK)
  | 0, _ => none
  | f + 1, T => match P.underlying T with
    | some (.int k) => some [.int k]
    | some .bool => some [.bool]
    | some .string => some [.str]
    | some (.struct fs) => if P.stoodInHeld T then none else
        (fs.toList.foldl (fun (acc : Option (List LK)) fd => match acc, flatEq P f fd.type with
          | some l, some m => if fd.name ≠ "_" ∧ fd.offset = l.length ∧ (P.info? fd.type).map (·.size) = some m.length then some (l ++ m) else none
          | _, _ => none) (some []))
    | some (.array n e) => match flatEq P f e with
        | some m => if (P.info? e).map (·.size) = some m.length then some (List.replicate n m).flatten else none
        | none => none
    | _ => none

class EqT (P : Program) (T : TypeId) (lks : outParam (List LK)) : Prop where
  flat : flatEq P 6 T = some lks
  guard : P.eqGuardType P.depth T = false

/-- v is the value of type T with these cells -/
def IsV (P : Program) (T : TypeId) (xs : List Value) (v : Value) : Prop :=
  match P.underlying T with
  | some (.struct _) | some (.array _ _) => v = .agg xs.toArray
  | _ => xs = [v]

theorem run_partV {P : Program} {T : TypeId} {xs : List Value} {off n : Nat} {d : TypeDesc} (hd : P.underlying T = some d) (hs : (P.info? T).map (·.size) = some n) (hl : off + n ≤ xs.length) (h1 : (TK.of d).agg = false → n = 1) (w : World) :
    ∃ v, (part T xs.toArray off).run P w = .ok v w ∧ IsV P T ((xs.drop off).take n) v := by
  have hTI : TI P T (TK.of d) n (((P.info? T).map (·.bytes)).getD 0) := ⟨by simp [hd], by cases hi : P.info? T <;> simp_all⟩
  have := run_part hTI xs off w hl h1
  refine ⟨_, this, ?_⟩
  unfold IsV
  rw [hd]
  cases d with
  | struct fs => simp [TK.of, TK.agg]
  | array n' e => simp [TK.of, TK.agg]
  | _ =>
    have hn : n = 1 := h1 rfl
    subst hn
    have hlt : off < xs.length := by omega
    simp only [TK.of, TK.agg, Bool.false_eq_true, if_false]
    rw [List.getD_eq_getElem?_getD, List.getElem?_eq_getElem hlt, Option.getD_some]
    rw [List.drop_eq_getElem_cons hlt]; rfl

def eqElems (d : Nat) (e : TypeId) (n : Nat) (xs ys : Array Value) : List Nat → Sem Bool
  | [] => pure true
  | i :: l => do
    let a ← part e xs (i * n)
    let b ← part e ys (i * n)
    let r ← Op.equalIn d e a b
    if (!r) = true then pure false else eqElems d e n xs ys l

theorem run_equalIn_array {P : Program} (d : Nat) (t e : TypeId) (len n : Nat) (xs ys : Array Value) (ht : P.underlying t = some (.array len e)) (hn : (P.info? e).map (·.size) = some n) (w : World) :
    (Op.equalIn (d + 1) t (.agg xs) (.agg ys)).run P w = (eqElems d e n xs ys (List.range' 0 len)).run P w := by
  have hs : (sizeOf e).run P w = .ok n w := by
    cases hi : P.info? e with
    | none => simp [hi] at hn
    | some i => simp [hi] at hn; simp [sizeOf, typeInfo, hi, hn]
  simp only [Op.equalIn, Sem.run_bind, run_underlying ht, Result.andThen_ok, hs]
  rw [Std.Legacy.Range.forIn_eq_forIn_range']
  simp only [Std.Legacy.Range.size, Nat.sub_zero, Nat.add_sub_cancel, Nat.div_one]
  generalize List.range' 0 len 1 = l
  clear hs
  induction l generalizing w with
  | nil => simp [eqElems]
  | cons i l ih =>
    simp only [List.forIn_cons, eqElems, Sem.run_bind, Sem.run_ite]
    generalize (part e xs (i * n)).run P w = r1
    cases r1 with
    | ok a w1 =>
      simp only [Result.andThen_ok]
      generalize (part e ys (i * n)).run P w1 = r2
      cases r2 with
      | ok b w2 =>
        simp only [Result.andThen_ok]
        generalize (Op.equalIn d e a b).run P w2 = r3
        cases r3 with
        | ok r w3 =>
          cases r
          · simp only [Result.andThen_ok, Bool.not_false, if_true, Sem.run_pure]
          · simp only [Result.andThen_ok, Bool.not_true, Bool.false_eq_true, if_false, Sem.run_pure]
            exact ih w3
        | halt x w3 => simp [Result.andThen]
      | halt x w2 => simp [Result.andThen]
    | halt x w1 => simp [Result.andThen]

theorem flatEq_leaf {P : Program} {f : Nat} {T : TypeId} {lks : List LK} {d : TypeDesc} (h : flatEq P f T = some lks) (hd : P.underlying T = some d) (hk : (TK.of d).agg = false) : lks.length = 1 := by
  cases f with
  | zero => simp [flatEq] at h
  | succ f => cases d <;> simp [flatEq, hd, TK.of, TK.agg] at h hk <;> simp [← h]
theorem flatEq_und {P : Program} {f : Nat} {T : TypeId} {lks : List LK} (h : flatEq P f T = some lks) : ∃ d, P.underlying T = some d := by
  cases f with
  | zero => simp [flatEq] at h
  | succ f =>
    cases hu : P.underlying T with
    | none => simp [flatEq, hu] at h
    | some d => exact ⟨d, rfl⟩

theorem vEqB_split {n : Nat} {xs ys : List Value} (h : xs.length = ys.length) : vEqB xs ys = (vEqB (xs.take n) (ys.take n) && vEqB (xs.drop n) (ys.drop n)) := by
  rw [← vEqB_append (by simp [h]), List.take_append_drop, List.take_append_drop]

def fstep (P : Program) (f : Nat) (acc : Option (List LK)) (fd : Field) : Option (List LK) := match acc, flatEq P f fd.type with
  | some l, some m => if fd.name ≠ "_" ∧ fd.offset = l.length ∧ (P.info? fd.type).map (·.size) = some m.length then some (l ++ m) else none
  | _, _ => none
theorem fstep_none {P : Program} {f : Nat} : ∀ (fs : List Field), fs.foldl (fstep P f) none = none
  | [] => rfl
  | fd :: fs => by simp only [List.foldl_cons, fstep]; exact fstep_none fs

def FlatOk (P : Program) (f : Nat) : Prop := ∀ T lks, flatEq P f T = some lks → ∀ d, f ≤ d → ∀ xs ys u v, HasL lks xs → HasL lks ys → IsV P T xs u → IsV P T ys v → ∀ w, (Op.equalIn d T u v).run P w = .ok (vEqB xs ys) w

theorem sub_eq {P : Program} {f d : Nat} (ih : FlatOk P f) (hfd : f ≤ d) {T : TypeId} {m pre post lks : List LK} (hm : flatEq P f T = some m) (hs : (P.info? T).map (·.size) = some m.length) {xs ys : List Value} (hx : HasL lks xs) (hy : HasL lks ys) (he : lks = pre ++ m ++ post) (w : World) :
    ∃ a b, (part T xs.toArray pre.length).run P w = .ok a w ∧ (part T ys.toArray pre.length).run P w = .ok b w ∧ (Op.equalIn d T a b).run P w = .ok (vEqB ((xs.drop pre.length).take m.length) ((ys.drop pre.length).take m.length)) w := by
  obtain ⟨dd, hdd⟩ := flatEq_und hm
  have h1 : (TK.of dd).agg = false → m.length = 1 := fun hk => flatEq_leaf hm hdd hk
  have hlx : pre.length + m.length ≤ xs.length := by rw [← hx.1, he]; simp
  have hly : pre.length + m.length ≤ ys.length := by rw [← hy.1, he]; simp
  obtain ⟨a, ha, hva⟩ := run_partV hdd hs hlx h1 w
  obtain ⟨b, hb, hvb⟩ := run_partV hdd hs hly h1 w
  have hsub : (lks.drop pre.length).take m.length = m := by
    rw [he, List.append_assoc, List.drop_left', List.take_left'] <;> rfl
  have hx' : HasL m ((xs.drop pre.length).take m.length) := by have := (All2.drop hx pre.length).take m.length; rwa [hsub] at this
  have hy' : HasL m ((ys.drop pre.length).take m.length) := by have := (All2.drop hy pre.length).take m.length; rwa [hsub] at this
  exact ⟨a, b, ha, hb, ih T m hm d hfd _ _ a b hx' hy' hva hvb w⟩

theorem fields_eq {P : Program} {f d : Nat} (ih : FlatOk P f) (hfd : f ≤ d) {lks : List LK} {xs ys : List Value} (hx : HasL lks xs) (hy : HasL lks ys) (w : World) : ∀ (fs : List Field) (l : List LK), fs.foldl (fstep P f) (some l) = some lks →
    (∃ r, lks = l ++ r) ∧ (Op.eqFields d xs.toArray ys.toArray fs).run P w = .ok (vEqB (xs.drop l.length) (ys.drop l.length)) w
  | [], l, h => by
    simp only [List.foldl_nil, Option.some.injEq] at h
    subst h
    refine ⟨⟨[], by simp⟩, ?_⟩
    have e1 : xs.drop l.length = [] := List.drop_of_length_le (Nat.le_of_eq hx.1.symm)
    have e2 : ys.drop l.length = [] := List.drop_of_length_le (Nat.le_of_eq hy.1.symm)
    rw [e1, e2]; simp [Op.eqFields, vEqB]
  | fd :: fs, l, h => by
    simp only [List.foldl_cons] at h
    cases hm : flatEq P f fd.type with
    | none => simp only [fstep, hm] at h; rw [fstep_none] at h; cases h
    | some m =>
      simp only [fstep, hm] at h
      by_cases hc : fd.name ≠ "_" ∧ fd.offset = l.length ∧ (P.info? fd.type).map (·.size) = some m.length
      · rw [if_pos hc] at h
        obtain ⟨⟨r, hr⟩, hrun⟩ := fields_eq ih hfd hx hy w fs (l ++ m) h
        refine ⟨⟨m ++ r, by rw [hr]; simp⟩, ?_⟩
        obtain ⟨a, b, ha, hb, hab⟩ := sub_eq ih hfd hm hc.2.2 hx hy hr w
        simp only [Op.eqFields, if_pos hc.1, Sem.run_bind, hc.2.1, ha, hb, hab, Result.andThen_ok]
        have hlen : (xs.drop l.length).length = (ys.drop l.length).length := by simp [← hx.1, ← hy.1]
        rw [vEqB_split (n := m.length) hlen]
        simp only [List.drop_drop]
        simp only [List.length_append] at hrun
        cases vEqB ((xs.drop l.length).take m.length) ((ys.drop l.length).take m.length) with
        | true => simpa using hrun
        | false => simp
      · rw [if_neg hc, fstep_none] at h; cases h

theorem elems_eq {P : Program} {f d : Nat} (ih : FlatOk P f) (hfd : f ≤ d) {e : TypeId} {m lks : List LK} (hm : flatEq P f e = some m) (hs : (P.info? e).map (·.size) = some m.length) {xs ys : List Value} (hx : HasL lks xs) (hy : HasL lks ys) (w : World) : ∀ (k i : Nat), lks = (List.replicate (i + k) m).flatten →
    (eqElems d e m.length xs.toArray ys.toArray (List.range' i k)).run P w = .ok (vEqB (xs.drop (i * m.length)) (ys.drop (i * m.length))) w
  | 0, i, h => by
    have hl : lks.length = i * m.length := by rw [h]; simp
    have e1 : xs.drop (i * m.length) = [] := List.drop_of_length_le (by rw [← hl, hx.1]; exact Nat.le_refl _)
    have e2 : ys.drop (i * m.length) = [] := List.drop_of_length_le (by rw [← hl, hy.1]; exact Nat.le_refl _)
    rw [e1, e2]; simp [eqElems, vEqB]
  | k + 1, i, h => by
    have h' : lks = (List.replicate i m).flatten ++ m ++ (List.replicate k m).flatten := by
      rw [h, ← List.replicate_append_replicate, List.flatten_append, List.replicate_succ, List.flatten_cons, List.append_assoc]
    have hpl : (List.replicate i m).flatten.length = i * m.length := by simp
    obtain ⟨a, b, ha, hb, hab⟩ := sub_eq ih hfd hm hs hx hy h' w
    rw [hpl] at ha hb hab
    have hrun := elems_eq ih hfd hm hs hx hy w k (i + 1) (by rw [h]; congr 2; omega)
    simp only [List.range'_succ, eqElems, Sem.run_bind, ha, hb, hab, Result.andThen_ok]
    have hlen : (xs.drop (i * m.length)).length = (ys.drop (i * m.length)).length := by simp [← hx.1, ← hy.1]
    rw [vEqB_split (n := m.length) hlen]
    simp only [List.drop_drop]
    rw [Nat.add_mul, Nat.one_mul] at hrun
    cases vEqB ((xs.drop (i * m.length)).take m.length) ((ys.drop (i * m.length)).take m.length) with
    | true => simpa using hrun
    | false => simp

theorem hasL_one {l : LK} {xs : List Value} (h : HasL [l] xs) : ∃ v, xs = [v] ∧ LK.has l v = true := by
  obtain ⟨v, m, rfl, h1, h2⟩ := All2.cons_inv h
  obtain rfl := h2.nil_inv
  exact ⟨v, rfl, h1⟩

theorem flat_ok {P : Program} : ∀ f, FlatOk P f
  | 0 => fun T lks h => by simp [flatEq] at h
  | f + 1 => fun T lks h d hfd xs ys u v hx hy hu hv w => by
    have ih := flat_ok (P := P) f
    obtain ⟨d, rfl⟩ : ∃ d', d = d' + 1 := ⟨d - 1, by omega⟩
    obtain ⟨dd, hdd⟩ := flatEq_und h
    simp only [flatEq, hdd] at h
    simp only [IsV, hdd] at hu hv
    cases dd with
    | int k =>
      simp only [Option.some.injEq] at h; subst h
      obtain ⟨x, rfl, h1⟩ := hasL_one hx
      obtain ⟨y, rfl, h2⟩ := hasL_one hy
      simp only [List.cons.injEq, and_true] at hu hv
      subst hu hv
      cases x <;> simp [LK.has] at h1
      cases y <;> simp [LK.has] at h2
      rename_i k1 a k2 b
      subst h1 h2
      rw [run_equalIn_int w d T _ _ a b hdd]; simp [vEqB, vEq]; rfl
    | bool =>
      simp only [Option.some.injEq] at h; subst h
      obtain ⟨x, rfl, h1⟩ := hasL_one hx
      obtain ⟨y, rfl, h2⟩ := hasL_one hy
      simp only [List.cons.injEq, and_true] at hu hv
      subst hu hv
      cases x <;> simp [LK.has] at h1
      cases y <;> simp [LK.has] at h2
      rw [run_equalIn_bool' w d T _ _ hdd]; simp [vEqB, vEq]
    | string =>
      simp only [Option.some.injEq] at h; subst h
      obtain ⟨x, rfl, h1⟩ := hasL_one hx
      obtain ⟨y, rfl, h2⟩ := hasL_one hy
      simp only [List.cons.injEq, and_true] at hu hv
      subst hu hv
      cases x <;> simp [LK.has] at h1
      cases y <;> simp [LK.has] at h2
      rw [run_equalIn_string w d T _ _ hdd]; simp [vEqB, vEq]
    | struct fs =>
      simp only at hu hv
      subst hu hv
      by_cases hst : P.stoodInHeld T = true
      · simp [hst] at h
      · simp only [hst, if_false] at h
        have hfo : P.fieldsOf T = fs := by simp [Program.fieldsOf, hdd]
        have hrun := run_equalIn_struct (P := P) w d T xs.toArray ys.toArray (by rw [hfo]; exact hdd) (by simpa using hst)
        rw [hrun, hfo]
        have := (fields_eq (d := d) ih (by omega) hx hy w fs.toList [] h).2
        simpa using this
    | array n e =>
      simp only at hu hv
      subst hu hv
      cases hm : flatEq P f e with
      | none => simp [hm] at h
      | some m =>
        simp only [hm] at h
        by_cases hs : (P.info? e).map (·.size) = some m.length
        · simp only [hs, if_true, Option.some.injEq] at h
          rw [run_equalIn_array d T e n m.length _ _ hdd hs w]
          have := elems_eq (d := d) ih (by omega) hm hs hx hy w n 0 (by rw [← h]; simp)
          simpa using this
        · simp [hs] at h
    | _ => simp at h

/-- the cells are plain, these -/
def Plain (cs : List AC) (xs : List Value) : Prop := cs = xs.map fun v => .p (.v v)
theorem plain_vals {μ : Mu} {X : Wd} {cs : List AC} {xs arr : List Value} (h : Plain cs xs) (ha : All2 (AC.holds μ X) cs arr) : arr = xs := by
  subst h
  apply List.ext_getElem?
  intro i
  by_cases hi : i < xs.length
  · have h1 : (xs.map fun v => AC.p (.v v))[i]? = some (.p (.v xs[i])) := by simp [hi]
    obtain ⟨v, hv, hh⟩ := ha.get h1
    rw [hv, List.getElem?_eq_getElem hi, hh.1]
  · have := ha.1
    simp only [List.length_map] at this
    rw [List.getElem?_eq_none (by omega), List.getElem?_eq_none (by omega)]
theorem Plain.nil : Plain [] [] := rfl
theorem Plain.cons {v : Value} {cs : List AC} {xs : List Value} (h : Plain cs xs) : Plain (.p (.v v) :: cs) (v :: xs) := by unfold Plain at *; rw [h]; rfl
theorem Plain.map {α : Type} {l : List α} {f : α → Value} : Plain (l.map fun x => .p (.v (f x))) (l.map f) := by unfold Plain; simp
theorem Plain.append {cs ds : List AC} {xs ys : List Value} (h : Plain cs xs) (k : Plain ds ys) : Plain (cs ++ ds) (xs ++ ys) := by unfold Plain at *; rw [h, k]; simp

section ops
variable {C : Ctx} {o : Oper} {σ : St} {t t' : TypeId} {x y : Operand} {lks : List LK} {cs ds : List AC} {xs ys : List Value}
theorem lop_eqla (ho : o.op = .binOp .eql t x y t') (hT : EqT C.P t lks) (hx : σ.look x = .a cs) (hy : σ.look y = .a ds) (h1 : Plain cs xs) (h2 : Plain ds ys) (h3 : HasL lks xs) (h4 : HasL lks ys) (hagg : ∃ k sz by_, TI C.P t k sz by_ ∧ k.agg = true) (hd : dOk C o.dst = true) :
    LOp C o σ ⟨.p (.v (.bool (vEqB xs ys))), []⟩ (fun _ => false) :=
  lop_val hd fun τ a w G hl hm h => by
    obtain ⟨ax, e1, q1⟩ := look_of h ((hl x (by simp [ho, Op.operands])).trans hx)
    obtain ⟨ay, e2, q2⟩ := look_of h ((hl y (by simp [ho, Op.operands])).trans hy)
    obtain rfl := plain_vals h1 q1
    obtain rfl := plain_vals h2 q2
    obtain ⟨k, sz, by_, hTI, hk⟩ := hagg
    obtain ⟨d, hdd, hkd⟩ := hTI.undd
    have hV : ∀ zs : List Value, IsV C.P t zs (.agg zs.toArray) := fun zs => by
      unfold IsV; rw [hdd]
      subst hkd
      cases d <;> simp [TK.of, TK.agg] at hk <;> rfl
    have hrun := flat_ok 6 t lks hT.flat 10000 (by omega) ax ay _ _ h3 h4 (hV ax) (hV ay) w
    refine ⟨.bool (vEqB ax ay), ?_, rfl, rfl⟩
    simp only [execOp, ho, e1, e2, Sem.run_bind, run_eqGuard_agg w .eql t x y _ _ hT.guard, Result.andThen_ok, run_eql_struct, hrun, Sem.run_pure]
theorem lop_neqa (ho : o.op = .binOp .neq t x y t') (hT : EqT C.P t lks) (hx : σ.look x = .a cs) (hy : σ.look y = .a ds) (h1 : Plain cs xs) (h2 : Plain ds ys) (h3 : HasL lks xs) (h4 : HasL lks ys) (hagg : ∃ k sz by_, TI C.P t k sz by_ ∧ k.agg = true) (hd : dOk C o.dst = true) :
    LOp C o σ ⟨.p (.v (.bool (!vEqB xs ys))), []⟩ (fun _ => false) :=
  lop_val hd fun τ a w G hl hm h => by
    obtain ⟨ax, e1, q1⟩ := look_of h ((hl x (by simp [ho, Op.operands])).trans hx)
    obtain ⟨ay, e2, q2⟩ := look_of h ((hl y (by simp [ho, Op.operands])).trans hy)
    obtain rfl := plain_vals h1 q1
    obtain rfl := plain_vals h2 q2
    obtain ⟨k, sz, by_, hTI, hk⟩ := hagg
    obtain ⟨d, hdd, hkd⟩ := hTI.undd
    have hV : ∀ zs : List Value, IsV C.P t zs (.agg zs.toArray) := fun zs => by
      unfold IsV; rw [hdd]
      subst hkd
      cases d <;> simp [TK.of, TK.agg] at hk <;> rfl
    have hrun := flat_ok 6 t lks hT.flat 10000 (by omega) ax ay _ _ h3 h4 (hV ax) (hV ay) w
    refine ⟨.bool (!vEqB ax ay), ?_, rfl, rfl⟩
    simp only [execOp, ho, e1, e2, Sem.run_bind, run_eqGuard_agg w .neq t x y _ _ hT.guard, Result.andThen_ok, run_neq_struct, hrun, Sem.run_pure]
end ops
theorem HasL.nil : HasL [] [] := All2.nil
theorem HasL.cons {l : LK} {v : Value} {ls : List LK} {xs : List Value} (h : LK.has l v = true) (k : HasL ls xs) : HasL (l :: ls) (v :: xs) := All2.cons h k
end Go.Aw
