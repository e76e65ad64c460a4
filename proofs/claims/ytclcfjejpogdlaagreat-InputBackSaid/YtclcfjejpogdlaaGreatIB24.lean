/- packs: a list with another cart: copies; THE ABSTRACT WALK, part 31: a call that is lent two objects. Nothing here speaks of a program.; packs: slices.Insert of one element into an own slice -/
import Derived.Test.YtclcfjejpogdlaaGreatIB23
import Derived.Test.YtclcfjejpogdlaaGreatIB19
import Derived.Test.YtclcfjejpogdlaaGreatIB22
namespace Go.Proofs.YtclcfjejpogdlaaGreat.Wi
open Go Go.RowKit Go.Aw Go.Aw.Cart Go.Proofs.YtclcfjejpogdlaaGreat.Ca
set_option linter.unusedVariables false
set_option linter.unusedSimpArgs false
set_option maxRecDepth 8000
set_option maxHeartbeats 4000000
/-- no element, written out: it grows from now on -/
theorem lop_bzK {C : Ctx} {o : Oper} {σ : St} {T e : TypeId} {sz by_ : Nat} {ke : TK} {be : Nat} {z : List Value} {d n0 : Nat} {mo0 : Option MO} (ho : o.op = .buildSlice T 0 #[]) (hT : TI C.P T (.slice e) sz by_) (he : TI C.P e ke 10 be) (hz : TZ C.P e z) (hdst : o.dst = some d) (hm0 : σ.mem d = (n0, mo0)) (hd : dOk C o.dst = true) :
    LOp C o σ ⟨.o (.osl d n0 10 0 ([] : List Kd).length), [(d, (n0 + 1, some (.buf e 10 (([] : List Kd).map kR))))]⟩ (fun q => q == d) := lop_bo0 ho hT he hz hdst hm0 (by decide) hd
/-- one element, written out: an own slice -/
theorem lop_boK {C : Ctx} {o : Oper} {σ : St} {T e : TypeId} {sz by_ : Nat} {ke : TK} {be : Nat} {z : List Value} {d n0 : Nat} {mo0 : Option MO} {x0 : Operand} {k : Kd} (ho : o.op = .buildSlice T 1 #[(0, x0)]) (hT : TI C.P T (.slice e) sz by_) (he : TI C.P e ke 10 be) (hz : TZ C.P e z) (hdst : o.dst = some d) (hm0 : σ.mem d = (n0, mo0)) (h0 : σ.look x0 = .a (kL k)) (hd : dOk C o.dst = true) :
    LOp C o σ ⟨.o (.osl d n0 10 0 1), [(d, (n0 + 1, some (.buf e 10 [kR k])))]⟩ (fun q => q == d) := lop_buildO (ps := [(0, kR k)]) ho hdst hm0 (.cons ⟨rfl, rfl, _, h0, rfl⟩ .nil) rfl (by decide) (by decide) hd
namespace WD
theorem lopC {C : Ctx} {o : Oper} {σ : St} {e : Eff} {ro : Nat → Bool} (h : LOp C o σ e ro := by
    first | (apply lop_bzK; (focus rfl); (focus exact inferInstance); (focus exact inferInstance); (focus exact inferInstance); (focus rfl); (focus rfl); (focus rfl)) | (apply lop_boK; (focus rfl); (focus exact inferInstance); (focus exact inferInstance); (focus exact inferInstance); (focus rfl); (focus rfl); (focus rfl); (focus rfl)) | (apply gLoad; (focus rfl); apply lop_ld_bf; (focus rfl); (focus exact inferInstance); (focus rfl); (focus rfl); (focus rfl); (focus rfl); (focus rfl); (focus omega); (focus exact inferInstance); (focus rfl); (focus rfl)) | exact WC.lopC | fail) : LOp C o σ e ro := h
section steps
variable {C : Ctx} {ops : Array Oper} {o : Oper} {rest : List Oper} {K : St → Prop} {σ : St} {e : Eff} {ro : Nat → Bool} {W : List (Nat × Nat)} {i : Nat}
theorem rnC {d : Nat} (hk : RunN C ops rest K (e.app (some d) σ)) (hg : Guard ops σ o true := by first | exact gd_n rfl rfl | exact gd_t rfl rfl rfl rfl | exact gd_t rfl rfl rfl (by assumption)) (hd : o.dst = some d := by rfl) (h : LOp C o σ e ro := by exact lopC) : RunN C ops (o :: rest) K σ := rn_any hg hd h hk
end steps
end WD
open WD
theorem cloneK_o (l : List Kd) (ex : Bool) (h : l.length ≤ 1000000) : OCall Tryz.prog 169 [.p (.sl 10 (l.map kR) ex)] (fun _ => (0, none)) (.o (.osl 5 1 10 0 l.length)) (memL [(5, (2, some (.buf 148 10 (l.map kR))))]) := by
  refine ocall_ofF 5 Tryz.func169 rfl (fun w0 F S0 M0 => ?_)
  repeat' (first | refine rnC ?_ | refine rnSB ?_ | refine rnG ?_ | refine rnU ?_ | ((fail_if_success (refine rnKn ?_)); refine rnP ?_ ?_ <;> (intro hq; try (have hq' := hq; simp only [hqs] at hq'))) | refine rkC ?_ | refine rkSB ?_ | refine rkF ?_ | refine rkU ?_ | ((fail_if_success (refine rkKn ?_)); refine rkP ?_ ?_ <;> (intro hq; try (have hq' := hq; simp only [hqs] at hq'))) | refine stpR ?_ | refine ifT ?_ | refine ifF ?_ | (refine ifQ ?_ ?_ <;> (try (intro hn))) | (refine ifB ?_ ?_ <;> (intro hq; try (have hq' := hq; simp only [hqs] at hq'))))
  · have e : l = [] := List.eq_nil_of_length_eq_zero (by have := congrArg List.length hn; rwa [List.length_map, List.length_nil] at this)
    subst e
    refine aws_says (says_bump (o := 5) (ty := 148) (es := 10) rfl (by decide)) ?_
    refine aws_says (says_nil (t := 2) (o := 5) (ty := 148) (es := 10) rfl rfl (by decide)) ?_
    as_aux_lemma =>
      repeat' (first | refine rnC ?_ | refine rnSB ?_ | refine rnG ?_ | refine rnU ?_ | ((fail_if_success (refine rnKn ?_)); refine rnP ?_ ?_ <;> (intro hq; try (have hq' := hq; simp only [hqs] at hq'))) | refine rkC ?_ | refine rkSB ?_ | refine rkF ?_ | refine rkU ?_ | ((fail_if_success (refine rkKn ?_)); refine rkP ?_ ?_ <;> (intro hq; try (have hq' := hq; simp only [hqs] at hq'))) | refine stp ?_ | refine ifT ?_ | refine ifF ?_ | (refine ifQ ?_ ?_ <;> (try (intro hn))) | (refine ifB ?_ ?_ <;> (intro hq; try (have hq' := hq; simp only [hqs] at hq'))))
      exact RetO.mk (ot1 rfl rfl (.one (.kosl rfl)) rfl) ⟨.buf, trivial⟩
  · repeat' (first
    | refine rnC ?_
    | refine rnSB ?_
    | refine rnG ?_
    | refine rnU ?_
    | ((fail_if_success (refine rnKn ?_)); refine rnP ?_ ?_ <;> (intro hq; try (have hq' := hq; simp only [hqs] at hq')))
    | refine rkC ?_
    | refine rkSB ?_
    | refine rkF ?_
    | refine rkU ?_
    | ((fail_if_success (refine rkKn ?_)); refine rkP ?_ ?_ <;> (intro hq; try (have hq' := hq; simp only [hqs] at hq')))
    | refine stp ?_
    | refine ifT ?_
    | refine ifF ?_
    | (refine ifQ ?_ ?_ <;> (try (intro hn)))
    | (refine ifB ?_ ?_ <;> (intro hq; try (have hq' := hq; simp only [hqs] at hq'))))
    exact RetO.mk (ot1 rfl rfl (.one (.kosl rfl)) rfl) ⟨.buf, trivial⟩
instance cloneK_i {c k : Nat} {l : List Kd} {ex : Bool} : OC Tryz.prog 169 [.p (.sl 10 (l.map kR) ex)] [] [(c, k)] (l.length ≤ 1000000) (.o (.osl c (k + 1) 10 0 l.length)) [(c, (k + 2, some (.buf 148 10 (l.map kR))))] := ⟨fun h => (cloneK_o l ex h).fresh1 c k⟩
end Go.Proofs.YtclcfjejpogdlaaGreat.Wi
namespace Go.Aw
open Go Go.RowKit
set_option linter.unusedVariables false
set_option linter.unusedSimpArgs false
/-- the names: object 1000 is the caller's c, object 1001 the caller's d -/
def rn2 (c d : Nat) : Rn := fun k => if k = 1000 then some (c, none) else if k = 1001 then some (d, none) else none
theorem OCall.two {P : Program} {f : FuncId} {args : List AV} {n nd : Nat} {mo md : MO} {r : AV} {m1 m2 : Nat × Option MO} (h : OCall P f args (memL [(1000, (n, some mo)), (1001, (nd, some md))]) r (memL [(1000, m1), (1001, m2)])) (c d : Nat) (hcd : c ≠ d) :
    OCAt P f (args.map (AV.ren (rn2 c d))) [(c, (n, some (mo.ren (rn2 c d)))), (d, (nd, some (md.ren (rn2 c d))))] [] (r.ren (rn2 c d)) [(c, (m1.1, m1.2.map (MO.ren (rn2 c d)))), (d, (m2.1, m2.2.map (MO.ren (rn2 c d))))] := by
  have e1 : rn2 c d 1000 = some (c, none) := by simp [rn2]
  have e2 : rn2 c d 1001 = some (d, none) := by simp [rn2]
  have e3 : ∀ k, k ≠ 1000 → k ≠ 1001 → rn2 c d k = none := fun k h1 h2 => by simp [rn2, h1, h2]
  refine ocat_of (rn2 c d) (fun x => if x = c then some (1000, none) else if x = d then some (1001, none) else none) h ?_ ?_ ?_ ?_ ?_ ?_
  · intro k c' s
    by_cases hk : k = 1000
    · subst hk
      rw [e1]
      by_cases h1 : c' = c
      · subst h1; simp
      · by_cases h2 : c' = d
        · subst h2; simp [h1, Ne.symm hcd, hcd]
        · simp [h1, h2, Ne.symm h1]
    · by_cases hkq : k = 1001
      · subst hkq
        rw [e2]
        by_cases h1 : c' = c
        · subst h1; simp [Ne.symm hcd]
        · by_cases h2 : c' = d
          · subst h2; simp [h1]
          · simp [h1, h2, Ne.symm h2]
      · rw [e3 k hk hkq]
        by_cases h1 : c' = c
        · subst h1; simp [Ne.symm hk]
        · by_cases h2 : c' = d
          · subst h2; simp [h1, Ne.symm hkq]
          · simp [h1, h2]
  · intro k c' hk
    by_cases h1 : k = 1000
    · subst h1; rw [e1] at hk; simp at hk; subst hk; simp [memL]
    · by_cases h2 : k = 1001
      · subst h2; rw [e2] at hk; simp at hk; subst hk; simp [memL]
      · rw [e3 k h1 h2] at hk; cases hk
  · intro k c' n' hk
    by_cases h1 : k = 1000
    · subst h1; rw [e1] at hk; simp at hk
    · by_cases h2 : k = 1001
      · subst h2; rw [e2] at hk; simp at hk
      · rw [e3 k h1 h2] at hk; cases hk
  · intro k hk
    have h1 : k ≠ 1000 := fun e => by subst e; rw [e1] at hk; cases hk
    have h2 : k ≠ 1001 := fun e => by subst e; rw [e2] at hk; cases hk
    simp [memL, h1, h2]
  · intro c' k s hc
    by_cases h1 : c' = c
    · subst h1
      simp at hc; obtain ⟨rfl, rfl⟩ := hc
      exact ⟨by simp [kIn], fun mem => by simp [putsM, memL]⟩
    · by_cases h2 : c' = d
      · subst h2
        simp [h1] at hc; obtain ⟨rfl, rfl⟩ := hc
        exact ⟨by simp [kIn], fun mem => by simp [putsM, memL, h1]⟩
      · simp [h1, h2] at hc
  · intro c' hc
    by_cases h1 : c' = c
    · simp [h1] at hc
    · by_cases h2 : c' = d
      · rw [if_neg h1, if_pos h2] at hc; cases hc
      · simp only [kIn, Bool.or_false, Bool.or_eq_false_iff]
        exact ⟨Bool.eq_false_iff.2 fun hb => h1 (Nat.eq_of_beq_eq_true hb), Bool.eq_false_iff.2 fun hb => h2 (Nat.eq_of_beq_eq_true hb)⟩
/-- a contract with two objects that are lent -/
theorem ocall_of22 {P : Program} {f : FuncId} {fn : Func} {body : Code} {args : List AV} {r : AV} {m0 m1 k0 k1 : Nat × Option MO} (hf : P.funcs[f]? = some fn) (hb : fn.body = some body)
    (h : ∀ w0 F S0 M0, AWs ⟨P, w0, F, S0, max args.length fn.ntmps, none, M0⟩ [body] (RetO P fn r (kIn [(1000, m1), (1001, k1)]) (memL [(1000, m1), (1001, k1)])) ⟨fun t => args.getD t .un, memL [(1000, m0), (1001, k0)]⟩) : OCall P f args (memL [(1000, m0), (1001, k0)]) r (memL [(1000, m1), (1001, k1)]) := by
  refine ocall_of (kIn [(1000, m1), (1001, k1)]) hf hb (fun o ho => ?_) h
  have h1 : o ≠ 1000 := fun e => by subst e; simp [kIn] at ho
  have h2 : o ≠ 1001 := fun e => by subst e; simp [kIn] at ho
  simp [memL, h1, h2]
/-- a part of an own slice that nobody looks at -/
theorem lop_sl_osl_u {C : Ctx} {o : Oper} {σ : St} {T e : TypeId} {x xl : Operand} {sz by_ : Nat} {ke : TK} {sze be : Nat} {ob g len : Nat} {kl : IntKind} {l : Int} (ho : o.op = .slice T x (some xl) none none) (hT : TI C.P T (.slice e) sz by_) (he : TI C.P e ke sze be) (hx : σ.look x = .o (.osl ob g sze 0 len)) (hlo : σ.look xl = .p (.v (.int kl l))) (h0 : 0 ≤ l) (h1 : l ≤ len) (hd : dOk C o.dst = true) :
    LOp C o σ ⟨.un, []⟩ (fun _ => false) :=
  lop_val hd fun τ a w G hl hm' hr => by
    obtain ⟨m, c, k1, k2, k3⟩ := look_of hr ((hl x (by simp [ho, Op.operands])).trans hx)
    have e1 := val_of hr ((hl xl (by simp [ho, Op.operands])).trans hlo)
    obtain ⟨d, hdd, hkk⟩ := hT.undd
    have : d = .slice e := by cases d <;> simp [TK.of] at hkk; rw [hkk]
    subst this
    simp only [Nat.zero_mul, Nat.sub_zero, Nat.zero_add] at k2 k3
    have hb : (Instr.sliceBounds true len c (some (.int kl l)) none none).run C.P w = .ok (l.toNat, len, c) w := by simp [Instr.sliceBounds, run_sb h0 h1]
    refine ⟨.slice (if c = l.toNat then m.map (fun b => (⟨b, 0, none⟩ : Addr)) else (m.map fun b => (⟨b, 0, none⟩ : Addr)).map (·.add (l.toNat * sze))) (len - l.toNat) (c - l.toNat), ?_, trivial⟩
    simp only [execOp, ho, Instr.sliceAt, Sem.run_bind, run_underlying hdd, Result.andThen_ok, Instr.slice, k3, e1, Option.map_some, Option.map_none, hb, he.run_sizeOf, Sem.run_pure]
end Go.Aw
namespace Go.Proofs.YtclcfjejpogdlaaGreat.Wi
open Go Go.RowKit Go.Aw Go.Aw.Cart Go.Proofs.YtclcfjejpogdlaaGreat.Ca
set_option linter.unusedVariables false
set_option linter.unusedSimpArgs false
set_option maxRecDepth 8000
set_option maxHeartbeats 4000000
namespace WI
theorem lopC {C : Ctx} {o : Oper} {σ : St} {e : Eff} {ro : Nat → Bool} (h : LOp C o σ e ro := by
    first | (apply lop_cap_asl; (focus rfl); (focus exact inferInstance); (focus rfl); (focus rfl)) | exact lop_len_asl rfl rfl rfl | (apply lop_sl_asl_l; (focus rfl); (focus exact inferInstance); (focus exact inferInstance); (focus rfl); (focus rfl); (focus omega); (focus omega); (focus omega); (focus omega); (focus rfl)) | (apply lop_sl_asl_h; (focus rfl); (focus exact inferInstance); (focus exact inferInstance); (focus rfl); (focus rfl); (focus omega); (focus omega); (focus rfl)) | (apply lop_sl_osl_l; (focus rfl); (focus exact inferInstance); (focus exact inferInstance); (focus rfl); (focus rfl); (focus omega); (focus omega); (focus rfl)) | (apply lop_sl_osl_u; (focus rfl); (focus exact inferInstance); (focus exact inferInstance); (focus rfl); (focus rfl); (focus omega); (focus omega); (focus rfl)) | exact W9.lopC | fail) : LOp C o σ e ro := h
section steps
variable {C : Ctx} {ops : Array Oper} {o : Oper} {rest : List Oper} {K : St → Prop} {σ : St} {e : Eff} {ro : Nat → Bool} {W : List (Nat × Nat)} {i : Nat}
theorem rnC {d : Nat} (hk : RunN C ops rest K (e.app (some d) σ)) (hg : Guard ops σ o true := by first | exact gd_n rfl rfl | exact gd_t rfl rfl rfl rfl | exact gd_t rfl rfl rfl (by assumption)) (hd : o.dst = some d := by rfl) (h : LOp C o σ e ro := by exact lopC) : RunN C ops (o :: rest) K σ := rn_any hg hd h hk
theorem rkC {d : Nat} (hk : RunK C ops W (i + 1) rest K (e.app (some d) σ)) (hg : Guard ops σ o true := by first | exact gd_n rfl rfl | exact gd_t rfl rfl rfl rfl | exact gd_t rfl rfl rfl (by assumption)) (hd' : o.dst = some d := by rfl) (hd : dOk C o.dst = true := by rfl) (h : LOp C o σ e ro := by exact lopC)
    (hro : ∀ x, ro x = true → okObj ops W i x = true := by first | exact fun _ => ro_none | exact ro_one rfl | exact ro_k1 rfl | exact ro_one (by kernel_rfl) | exact ro_k1 (by kernel_rfl) | exact ro_kIn (by decide)) (hob : ∀ p ∈ e.obj, (i, p.1) ∈ W := by first | exact ob_none | exact ob_one (by decide) | decide) : RunK C ops W i (o :: rest) K σ := rk_wr hg hd' hd h hro hob hk
end steps
end WI
open WI
abbrev kT := 148
theorem ovl_f : OvF Tryz.prog 278 22 4 := ⟨_, Tryz.func278, by kernel_rfl, by kernel_rfl, by kernel_rfl, by kernel_rfl⟩
theorem ins_rows1 {α : Type} (rows : List α) (xr zr : α) (i : Nat) (hi : i < rows.length) (A R : List α) (hA : A = rows.take i ++ List.replicate (rows.length + 1 - i) zr) (hR : R = A.take i ++ [xr] ++ A.drop (i + 1)) :
    R.take (i + 1) ++ (rows.drop i).take (rows.length - i) ++ R.drop (i + 1 + (rows.length - i)) = rows.take i ++ xr :: rows.drop i := by
  have hl : (rows.take i).length = i := by rw [List.length_take]; omega
  have hAl : A.length = rows.length + 1 := by rw [hA, List.length_append, hl, List.length_replicate]; omega
  have hAt : A.take i = rows.take i := by
    rw [hA]
    exact List.take_left' hl
  have hRl : R.length = rows.length + 1 := by rw [hR, List.length_append, List.length_append, hAt, hl, List.length_drop, hAl, List.length_singleton]; omega
  have h1 : R.take (i + 1) = rows.take i ++ [xr] := by
    have e : (rows.take i ++ [xr]).length = i + 1 := by rw [List.length_append, hl]; rfl
    rw [hR, hAt]
    exact List.take_left' e
  have h2 : R.drop (i + 1 + (rows.length - i)) = [] := List.drop_of_length_le (by omega)
  have h3 : (rows.drop i).take (rows.length - i) = rows.drop i := List.take_of_length_le (by rw [List.length_drop]; omega)
  rw [h1, h2, h3, List.append_nil, List.append_assoc]; rfl
theorem ins_len1 {α : Type} (rows : List α) (xr zr : α) (i : Nat) (hi : i < rows.length) (A R : List α) (hA : A = rows.take i ++ List.replicate (rows.length + 1 - i) zr) (hR : R = A.take i ++ [xr] ++ A.drop (i + 1)) : R.length = rows.length + 1 := by
  have hl : (rows.take i).length = i := by rw [List.length_take]; omega
  have hAl : A.length = rows.length + 1 := by rw [hA, List.length_append, hl, List.length_replicate]; omega
  rw [hR, List.length_append, List.length_append, List.length_take, List.length_drop, hAl, List.length_singleton]; omega
theorem ins_len2 {α : Type} (rows : List α) (i : Nat) (hi : i < rows.length) (R : List α) (hR : R = rows.take (i + 1) ++ (rows.drop i).take (rows.length - i) ++ rows.drop (i + 1 + (rows.length - i))) : R.length = rows.length + 1 := by
  rw [hR, List.length_append, List.length_append, List.length_take, List.length_take, List.length_drop, List.length_drop]; omega
theorem ins_rows2 {α : Type} (rows : List α) (xr : α) (i : Nat) (hi : i < rows.length) (R : List α) (hR : R = rows.take (i + 1) ++ (rows.drop i).take (rows.length - i) ++ rows.drop (i + 1 + (rows.length - i))) :
    R.take i ++ [xr] ++ R.drop (i + 1) = rows.take i ++ xr :: rows.drop i := by
  have hl : (rows.take (i + 1)).length = i + 1 := by rw [List.length_take]; omega
  have h2 : rows.drop (i + 1 + (rows.length - i)) = [] := List.drop_of_length_le (by omega)
  have h3 : (rows.drop i).take (rows.length - i) = rows.drop i := List.take_of_length_le (by rw [List.length_drop]; omega)
  rw [h2, h3, List.append_nil] at hR
  have h1 : R.take i = rows.take i := by
    rw [hR, List.take_append_of_le_length (by omega), List.take_take, Nat.min_eq_left (by omega)]
  have h2 : R.drop (i + 1) = rows.drop i := by
    rw [hR]
    exact List.drop_left' hl
  rw [h1, h2, List.append_assoc]; rfl
abbrev zR : List Value := [.string ByteArray.empty, .int .u64 0, .int .u64 0, .int .u64 0, .int .u64 0, .int .u64 0, .int .u64 0, .int .u64 0, .int .u64 0, .slice none 0 0]
theorem zR_one : ∀ v ∈ zR, v.oneCell' = true := by
  intro v hv
  simp only [zR, List.mem_cons, List.not_mem_nil, or_false] at hv
  rcases hv with rfl | rfl | rfl | rfl | rfl | rfl | rfl | rfl | rfl | rfl <;> rfl
theorem insert_o (g gd : Nat) (l : List Kd) (x : Kd) (i : Nat) (hi : i ≤ l.length) (hl : l.length ≤ 1000000) : OCall Tryz.prog 258 [.o (.osl 1000 g 10 0 l.length), .p (.i (i : Int)), .o (.osl 1001 gd 10 0 1)]
    (memL [(1000, (g + 1, some (.buf kT 10 (l.map kR)))), (1001, (gd + 1, some (.buf kT 10 [kR x])))]) (.o (.osl 1000 (g + 1) 10 0 (l.take i ++ x :: l.drop i).length)) (memL [(1000, (g + 2, some (.buf kT 10 ((l.take i ++ x :: l.drop i).map kR)))), (1001, (gd + 1, some (.buf kT 10 [kR x])))]) := by
  refine ocall_of22 Tryz.func258 rfl (fun w0 F S0 M0 => ?_)
  have d0 : decide (((1 : Nat) : Int) = 0) = false := by decide
  have hnl : (l.take i ++ x :: l.drop i).length = l.length + 1 := by rw [List.length_append, List.length_cons, List.length_take, List.length_drop]; omega
  rw [hnl]
  by_cases he : i = l.length
  · have d1 : decide ((i : Int) = (l.length : Int)) = true := decide_eq_true (by omega)
    rw [show (l.take i ++ x :: l.drop i).map kR = l.map kR ++ [kR x] by rw [he, List.take_length, List.drop_length, List.map_append]; rfl]
    repeat' (first | refine rnC ?_ | refine rnSB ?_ | refine rnG ?_ | refine rnU ?_ | ((fail_if_success (refine rnKn ?_)); refine rnP ?_ ?_ <;> (intro hq; try (have hq' := hq; simp only [hqs] at hq'))) | refine rkC ?_ | refine rkSB ?_ | refine rkF ?_ | refine rkU ?_ | ((fail_if_success (refine rkKn ?_)); refine rkP ?_ ?_ <;> (intro hq; try (have hq' := hq; simp only [hqs] at hq'))) | refine stp ?_ | refine ifT ?_ | refine ifF ?_ | (refine ifQ ?_ ?_ <;> (try (intro hn))) | (refine ifB ?_ ?_ <;> (intro hq; try (have hq' := hq; simp only [hqs] at hq'))))
    refine rn_any (gd_n rfl rfl) rfl (lop_append_osl (es := 10) (rows := l.map kR) (news := [kR x]) rfl rfl rfl rfl (by rw [List.length_map]) (src_osl (x := .tmp 24) (rows := [kR x]) (lo := 0) (len := 1) rfl rfl rfl (Nat.le_refl _)) rfl (by rw [List.length_map]; simp only [maxLen, List.length_cons, List.length_nil]; omega) (by rw [List.length_map]; simp only [List.length_cons, List.length_nil]; omega) rfl) ?_
    as_aux_lemma =>
      repeat' (first | refine rnC ?_ | refine rnSB ?_ | refine rnG ?_ | refine rnU ?_ | ((fail_if_success (refine rnKn ?_)); refine rnP ?_ ?_ <;> (intro hq; try (have hq' := hq; simp only [hqs] at hq'))) | refine rkC ?_ | refine rkSB ?_ | refine rkF ?_ | refine rkU ?_ | ((fail_if_success (refine rkKn ?_)); refine rkP ?_ ?_ <;> (intro hq; try (have hq' := hq; simp only [hqs] at hq'))) | refine stp ?_ | refine ifT ?_ | refine ifF ?_ | (refine ifQ ?_ ?_ <;> (try (intro hn))) | (refine ifB ?_ ?_ <;> (intro hq; try (have hq' := hq; simp only [hqs] at hq'))))
      exact RetO.mk (ot1 rfl rfl (.one (.kosl rfl)) (by rw [List.length_map]; rfl)) ⟨.buf, .buf, trivial⟩
  · have d1 : decide ((i : Int) = (l.length : Int)) = false := decide_eq_false (by omega)
    have hil : i < l.length := by omega
    refine aws_endS ?_
    refine aws_cap (t := 0) (o := 1000) rfl rfl rfl (by rw [List.length_map]; omega) fun c hc1 hc2 => ?_
    rw [List.length_map] at hc1
    simp only [maxLen] at hc2
    have hm : (l.take i ++ x :: l.drop i).map kR = (l.map kR).take i ++ kR x :: (l.map kR).drop i := by rw [List.map_append, List.map_cons, List.map_take, List.map_drop]
    rw [hm]
    have hrl : (l.map kR).length = l.length := List.length_map _
    by_cases hg : c < l.length + 1
    · have d2 : decide ((c : Int) < (l.length : Int) + ((1 : Nat) : Int)) = true := decide_eq_true (by omega)
      have hE := ins_rows1 (l.map kR) (kR x) (zR.map PVal.v) i (by rw [hrl]; exact hil) _ _ rfl rfl
      have hRl := ins_len1 (l.map kR) (kR x) (zR.map PVal.v) i (by rw [hrl]; exact hil) _ _ rfl rfl
      rw [hrl] at hE hRl
      rw [← hE]
      repeat' (first | refine rnC ?_ | refine rnSB ?_ | refine rnG ?_ | refine rnU ?_ | ((fail_if_success (refine rnKn ?_)); refine rnP ?_ ?_ <;> (intro hq; try (have hq' := hq; simp only [hqs] at hq'))) | refine rkC ?_ | refine rkSB ?_ | refine rkF ?_ | refine rkU ?_ | ((fail_if_success (refine rkKn ?_)); refine rkP ?_ ?_ <;> (intro hq; try (have hq' := hq; simp only [hqs] at hq'))) | refine stp ?_ | refine ifT ?_ | refine ifF ?_ | (refine ifQ ?_ ?_ <;> (try (intro hn))) | (refine ifB ?_ ?_ <;> (intro hq; try (have hq' := hq; simp only [hqs] at hq'))))
      refine rn_any (gd_n rfl rfl) rfl (lop_ap_zc (k := l.length + 1 - i) (len1 := i) (z := zR) rfl inferInstance inferInstance inferInstance inferInstance rfl zR_one rfl rfl rfl rfl rfl (by omega) (by omega) (by rw [hrl]; omega) (by omega) (by omega) (by omega) rfl (by decide) rfl) ?_
      repeat' (first | refine rnC ?_ | refine rnSB ?_ | refine rnG ?_ | refine rnU ?_ | ((fail_if_success (refine rnKn ?_)); refine rnP ?_ ?_ <;> (intro hq; try (have hq' := hq; simp only [hqs] at hq'))) | refine rkC ?_ | refine rkSB ?_ | refine rkF ?_ | refine rkU ?_ | ((fail_if_success (refine rkKn ?_)); refine rkP ?_ ?_ <;> (intro hq; try (have hq' := hq; simp only [hqs] at hq'))) | refine stp ?_ | refine ifT ?_ | refine ifF ?_ | (refine ifQ ?_ ?_ <;> (try (intro hn))) | (refine ifB ?_ ?_ <;> (intro hq; try (have hq' := hq; simp only [hqs] at hq'))))
      refine rn_any (gd_n rfl rfl) rfl (lop_cp_o (ob := 40) (d := i) (k := 1) rfl inferInstance inferInstance rfl rfl rfl ((src_osl (x := .tmp 44) (rows := [kR x]) (lo := 0) (len := 1) rfl rfl rfl (Nat.le_refl _)).n (Nat.succ_pos 0)) (by show Nat.min 1 _ = 1; exact Nat.min_eq_left (by omega)) (Nat.le_refl 1) (by decide) (by rw [List.length_append, List.length_take, hrl, List.length_replicate]; omega) rfl) ?_
      repeat' (first | refine rnC ?_ | refine rnSB ?_ | refine rnG ?_ | refine rnU ?_ | ((fail_if_success (refine rnKn ?_)); refine rnP ?_ ?_ <;> (intro hq; try (have hq' := hq; simp only [hqs] at hq'))) | refine rkC ?_ | refine rkSB ?_ | refine rkF ?_ | refine rkU ?_ | ((fail_if_success (refine rkKn ?_)); refine rkP ?_ ?_ <;> (intro hq; try (have hq' := hq; simp only [hqs] at hq'))) | refine stp ?_ | refine ifT ?_ | refine ifF ?_ | (refine ifQ ?_ ?_ <;> (try (intro hn))) | (refine ifB ?_ ?_ <;> (intro hq; try (have hq' := hq; simp only [hqs] at hq'))))
      refine aws_draws [(8, 40)] mixed (by kernel_rfl) ?_
      repeat' (first | refine rk_nil ?_ | refine rkC ?_ | refine rkSB ?_ | refine rkF ?_ | refine rkU ?_ | ((fail_if_success (refine rkKn ?_)); refine rkP ?_ ?_ <;> (intro hq; try (have hq' := hq; simp only [hqs] at hq'))))
      refine rk_wr (gd_n rfl rfl) rfl rfl (lop_cp_o (ob := 40) (d := i + 1) (k := l.length - i) rfl inferInstance inferInstance rfl rfl rfl (src_aslC (x := .tmp 53) (ob := 1000) (d := i) rfl rfl rfl (by show 0 + (i : Int).toNat * 10 = i * 10; rw [Nat.zero_add]; rfl)) (by show Nat.min (l.length - i) _ = l.length - i; exact Nat.min_eq_left (by omega)) (by rw [List.length_drop, hrl]; exact Nat.le_refl _) (by omega) (Nat.le_trans (show i + 1 + (i + (l.length + 1 - i) - ((i : Int) + ((1 : Nat) : Int)).toNat) ≤ l.length + 1 by omega) (Nat.le_of_eq hRl.symm)) rfl) (by intro q hq; simp only [Bool.or_eq_true, beq_iff_eq] at hq; rcases hq with rfl | rfl <;> kernel_rfl) (ob_one (by decide)) ?_
      repeat' (first | refine rk_nil ?_ | refine rkC ?_ | refine rkSB ?_ | refine rkF ?_ | refine rkU ?_ | ((fail_if_success (refine rkKn ?_)); refine rkP ?_ ?_ <;> (intro hq; try (have hq' := hq; simp only [hqs] at hq'))))
      as_aux_lemma =>
        repeat' (first | refine rnC ?_ | refine rnSB ?_ | refine rnG ?_ | refine rnU ?_ | ((fail_if_success (refine rnKn ?_)); refine rnP ?_ ?_ <;> (intro hq; try (have hq' := hq; simp only [hqs] at hq'))) | refine rkC ?_ | refine rkSB ?_ | refine rkF ?_ | refine rkU ?_ | ((fail_if_success (refine rkKn ?_)); refine rkP ?_ ?_ <;> (intro hq; try (have hq' := hq; simp only [hqs] at hq'))) | refine stp ?_ | refine ifT ?_ | refine ifF ?_ | (refine ifQ ?_ ?_ <;> (try (intro hn))) | (refine ifB ?_ ?_ <;> (intro hq; try (have hq' := hq; simp only [hqs] at hq'))))
        exact ⟨_, says_mv (t := 6) (o := 1000) (o2 := 40) rfl rfl rfl rfl (by decide), RetO.mk (ot1 rfl rfl (.one (.kosl rfl)) (by rw [show i + (l.length + 1 - i) = l.length + 1 by omega])) ⟨.buf, .buf, trivial⟩⟩
    · have d2 : decide ((c : Int) < (l.length : Int) + ((1 : Nat) : Int)) = false := decide_eq_false (by omega)
      have hE := ins_rows2 (l.map kR) (kR x) i (by rw [hrl]; exact hil) _ rfl
      have hRl := ins_len2 (l.map kR) i (by rw [hrl]; exact hil) _ rfl
      rw [hrl] at hE hRl
      have hR2 := (congrArg List.length hE).trans (show ((l.map kR).take i ++ kR x :: (l.map kR).drop i).length = l.length + 1 by rw [List.length_append, List.length_cons, List.length_take, List.length_drop, hrl]; omega)
      rw [← hE]
      repeat' (first | refine rnC ?_ | refine rnSB ?_ | refine rnG ?_ | refine rnU ?_ | ((fail_if_success (refine rnKn ?_)); refine rnP ?_ ?_ <;> (intro hq; try (have hq' := hq; simp only [hqs] at hq'))) | refine rkC ?_ | refine rkSB ?_ | refine rkF ?_ | refine rkU ?_ | ((fail_if_success (refine rkKn ?_)); refine rkP ?_ ?_ <;> (intro hq; try (have hq' := hq; simp only [hqs] at hq'))) | refine stp ?_ | refine ifT ?_ | refine ifF ?_ | (refine ifQ ?_ ?_ <;> (try (intro hn))) | (refine ifB ?_ ?_ <;> (intro hq; try (have hq' := hq; simp only [hqs] at hq'))))
      refine rn_any (gd_n rfl rfl) rfl (lop_ovl (ob := 1000) (d := 1001) ovl_f inferInstance inferInstance rfl rfl rfl rfl rfl rfl rfl (Nat.succ_pos _) (by rw [hrl]; omega) (by decide) rfl) ?_
      have d3 : (!false) = true := rfl
      repeat' (first | refine rnC ?_ | refine rnSB ?_ | refine rnG ?_ | refine rnU ?_ | ((fail_if_success (refine rnKn ?_)); refine rnP ?_ ?_ <;> (intro hq; try (have hq' := hq; simp only [hqs] at hq'))) | refine rkC ?_ | refine rkSB ?_ | refine rkF ?_ | refine rkU ?_ | ((fail_if_success (refine rkKn ?_)); refine rkP ?_ ?_ <;> (intro hq; try (have hq' := hq; simp only [hqs] at hq'))) | refine stp ?_ | refine ifT ?_ | refine ifF ?_ | (refine ifQ ?_ ?_ <;> (try (intro hn))) | (refine ifB ?_ ?_ <;> (intro hq; try (have hq' := hq; simp only [hqs] at hq'))))
      refine aws_draws [(8, 1000)] mixed (by kernel_rfl) ?_
      repeat' (first | refine rk_nil ?_ | refine rkC ?_ | refine rkSB ?_ | refine rkF ?_ | refine rkU ?_ | ((fail_if_success (refine rkKn ?_)); refine rkP ?_ ?_ <;> (intro hq; try (have hq' := hq; simp only [hqs] at hq'))))
      refine rk_wr (gd_n rfl rfl) rfl rfl (lop_cp_c (ob := 1000) (d := i + 1) (c := c) (k := l.length - i) rfl inferInstance inferInstance rfl rfl rfl (by show 0 + ((i : Int) + ((1 : Nat) : Int)).toNat * 10 = (i + 1) * 10; rw [show ((i : Int) + ((1 : Nat) : Int)).toNat = i + 1 by omega, Nat.zero_add]) (src_aslC (x := .tmp 76) (ob := 1000) (d := i) rfl rfl rfl (by show 0 + (i : Int).toNat * 10 = i * 10; rw [Nat.zero_add]; rfl)) (by show Nat.min (((l.length : Int) + ((1 : Nat) : Int)).toNat - (i : Int).toNat) (((l.length : Int) + ((1 : Nat) : Int)).toNat - ((i : Int) + ((1 : Nat) : Int)).toNat) = l.length - i; exact (Nat.min_eq_right (show ((l.length : Int) + ((1 : Nat) : Int)).toNat - ((i : Int) + ((1 : Nat) : Int)).toNat ≤ ((l.length : Int) + ((1 : Nat) : Int)).toNat - (i : Int).toNat by omega)).trans (by omega)) (by rw [List.length_drop, hrl]; exact Nat.le_refl _) (by omega) (by rw [hrl]; omega) (by omega) rfl) (by intro q hq; simp only [Bool.or_eq_true, beq_iff_eq, or_self] at hq; subst hq; kernel_rfl) (ob_one (by decide)) ?_
      repeat' (first | refine rk_nil ?_ | refine rkC ?_ | refine rkSB ?_ | refine rkF ?_ | refine rkU ?_ | ((fail_if_success (refine rkKn ?_)); refine rkP ?_ ?_ <;> (intro hq; try (have hq' := hq; simp only [hqs] at hq'))))
      repeat' (first | refine rnC ?_ | refine rnSB ?_ | refine rnG ?_ | refine rnU ?_ | ((fail_if_success (refine rnKn ?_)); refine rnP ?_ ?_ <;> (intro hq; try (have hq' := hq; simp only [hqs] at hq'))) | refine rkC ?_ | refine rkSB ?_ | refine rkF ?_ | refine rkU ?_ | ((fail_if_success (refine rkKn ?_)); refine rkP ?_ ?_ <;> (intro hq; try (have hq' := hq; simp only [hqs] at hq'))) | refine stp ?_ | refine ifT ?_ | refine ifF ?_ | (refine ifQ ?_ ?_ <;> (try (intro hn))) | (refine ifB ?_ ?_ <;> (intro hq; try (have hq' := hq; simp only [hqs] at hq'))))
      refine rn_any (gd_n rfl rfl) rfl (lop_cp_c (ob := 1000) (d := i) (c := c) (k := 1) rfl inferInstance inferInstance rfl rfl rfl (by show 0 + (i : Int).toNat * 10 = i * 10; rw [Nat.zero_add]; rfl) ((src_osl (x := .tmp 81) (rows := [kR x]) (lo := 0) (len := 1) rfl rfl rfl (Nat.le_refl _)).n (Nat.succ_pos 0)) (by show Nat.min 1 (((l.length : Int) + ((1 : Nat) : Int)).toNat - (i : Int).toNat) = 1; exact Nat.min_eq_left (by omega)) (Nat.le_refl 1) (by decide) (Nat.le_trans (show i ≤ l.length + 1 by omega) (Nat.le_of_eq hRl.symm)) (by omega) rfl) ?_
      as_aux_lemma =>
        repeat' (first | refine rnC ?_ | refine rnSB ?_ | refine rnG ?_ | refine rnU ?_ | ((fail_if_success (refine rnKn ?_)); refine rnP ?_ ?_ <;> (intro hq; try (have hq' := hq; simp only [hqs] at hq'))) | refine rkC ?_ | refine rkSB ?_ | refine rkF ?_ | refine rkU ?_ | ((fail_if_success (refine rkKn ?_)); refine rkP ?_ ?_ <;> (intro hq; try (have hq' := hq; simp only [hqs] at hq'))) | refine stp ?_ | refine ifT ?_ | refine ifF ?_ | (refine ifQ ?_ ?_ <;> (try (intro hn))) | (refine ifB ?_ ?_ <;> (intro hq; try (have hq' := hq; simp only [hqs] at hq'))))
        exact ⟨_, says_uncap (t := 6) (o := 1000) (c := c) rfl rfl rfl (Eq.trans (show ((l.length : Int) + ((1 : Nat) : Int)).toNat = l.length + 1 by omega) hR2.symm), RetO.mk (ot1 rfl rfl (.one (.kosl rfl)) (by rw [show ((l.length : Int) + ((1 : Nat) : Int)).toNat = l.length + 1 by omega])) ⟨.buf, .buf, trivial⟩⟩
end Go.Proofs.YtclcfjejpogdlaaGreat.Wi
