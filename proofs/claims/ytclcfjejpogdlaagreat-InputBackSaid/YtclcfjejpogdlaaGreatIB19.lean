/- THE ABSTRACT WALK, part 29: do two own slices overlap? Nothing here speaks of a program.; wire: a writer's whole numbers, vectors and texts -/
import Derived.Test.YtclcfjejpogdlaaGreatIB18
import Derived.Laws.Externs
import Derived.Test.YtclcfjejpogdlaaGreatIB14
import Derived.Test.YtclcfjejpogdlaaGreatIB16
namespace Go.Aw
open Go Go.RowKit
set_option linter.unusedVariables false
set_option linter.unusedSimpArgs false
/-- a function of the library that the model knows: it tells whether two slices overlap -/
class OvF (P : Program) (f : FuncId) (tS tR : TypeId) : Prop where
  fn : ∃ fn, P.funcs[f]? = some fn ∧ (fn.name == "runtime.NumGoroutine") = false ∧ fn.body.isNone = true ∧ Extern.findNext fn = none ∧ Extern.find fn = some (Extern.SlicesOverlaps.overlaps #[tS, tS] #[tR])
theorem shape_of {w : World} {b : Nat} {arr : Array Value} {ty : TypeId} {fr : Nat × Nat} (h : w.heap[b]? = some (.cells arr ty fr)) : w.shape? b = some (ty, arr.size) := by
  unfold World.shape?; rw [h]
theorem frozen_of {w : World} {b off : Nat} {arr : Array Value} {ty : TypeId} (h : w.heap[b]? = some (.cells arr ty (0, 0))) : w.frozen? ⟨b, off, none⟩ = false := by
  unfold World.frozen?; simp only [h]; simp
theorem lop_ovl {C : Ctx} {o : Oper} {σ : St} {f : FuncId} {x y : Operand} {ts : Array TypeId} {tS tR e : TypeId} {sz by_ : Nat} {ke : TK} {es be : Nat} {d gd nd tyd lend : Nat} {ob g off len cap c n ty : Nat} {rowsd rows : List (List PVal)} (hf : OvF C.P f tS tR) (hT : TI C.P tS (.slice e) sz by_) (he : TI C.P e ke es be) (ho : o.op = .call ⟨.value (.func f), #[x, y], ts⟩)
    (hx : σ.look x = .o (.osl d gd es 0 lend)) (hy : σ.look y = .o (.asl ob g off len cap)) (hmd : σ.mem d = (nd, some (.buf tyd es rowsd))) (hnd : nd = gd + 1) (hm : σ.mem ob = (n, some (.abs (bufC ty es c rows)))) (hn : n = g + 1) (hl : 0 < rowsd.length) (hr : 0 < rows.length) (hne : d ≠ ob) (hd : dOk C o.dst = true) :
    LOp C o σ ⟨.p (.v (.bool false)), []⟩ (fun q => q == d || q == ob) :=
  lop_val hd fun τ a w G hl' hm' h => by
    subst hnd hn
    obtain ⟨m1, c1, a1, a2, a3⟩ := look_of h ((hl' x (by simp [ho, Op.operands, Call.operands])).trans hx)
    obtain ⟨b2, c2, b1, b3⟩ := look_of h ((hl' y (by simp [ho, Op.operands, Call.operands])).trans hy)
    obtain ⟨g1, m1', d1, d2, d3, d4, d5, d6⟩ := h.mem d _ _ (by rw [hm' d (by simp)]; exact hmd)
    obtain rfl : gd = g1 := by omega
    rw [a1] at d2; obtain rfl := Option.some.inj d2
    obtain ⟨g2, m2, e1, e2, b, e3, hes, e4, e5, e6, arr, e7, e8, e9⟩ := h.mem ob _ _ (by rw [hm' ob (by simp)]; exact hm)
    obtain rfl : g = g2 := by omega
    rw [b1] at e2; obtain rfl := Option.some.inj e2
    simp only [Option.some.injEq] at e3
    subst e3
    rcases d6 with ⟨q1, q2, q3⟩ | ⟨b', arr', q1, q2, q3, q4, q5⟩
    · simp only at q2 d5; omega
    · simp only at q1; subst q1
      simp only [Option.map_some, Nat.zero_mul, Nat.sub_zero] at a3
      obtain ⟨fn, f1, f2, f3, f4, f5⟩ := hf.fn
      obtain ⟨dd, hdd, hkk⟩ := hT.undd
      have : dd = .slice e := by cases dd <;> simp [TK.of] at hkk; rw [hkk]
      subst this
      have hnb : b' ≠ b2 := fun q => h.apart d ob b' hne (by rw [q2]; simp) (by rw [e6, q]; simp)
      have hk0 : arr.size ≠ 0 := by
        rw [e8]
        have : 0 < c * es := Nat.mul_pos (by omega) hes
        omega
      have hr := Lib.run_overlaps_apart (P := C.P) w tS tR e hdd es he.run_sizeOf ⟨b', 0, none⟩ ⟨b2, off, none⟩ lend c1 len cap hnb tyd ty arr'.size arr.size (shape_of q3) (shape_of e7) hk0 (frozen_of q3) (frozen_of q3)
      have hc := run_callFunc_extern f1 f2 f3 f4 f5 #[.slice (some ⟨b', 0, none⟩) lend c1, .slice (some ⟨b2, off, none⟩) len cap] w
      rw [hr] at hc
      have ef : a.eval (.func f) = .func (.func f) #[] #[] := rfl
      refine ⟨.bool false, ?_, rfl, rfl⟩
      simp only [execOp, ho, resolve, ef, Deferred.ofValue, invoke, program, Sem.run_bind, Sem.run_pure, Result.andThen_ok, List.map_toArray, List.map_cons, List.map_nil, a3, b3]
      simp [hc, pure, Sem.run]
end Go.Aw
namespace Go.Aw
open Go Go.RowKit
/-- what a body ends with, said in another way -/
theorem aws_endS {C : Ctx} {Q : Exit → St → Prop} {σ : St} {c : Code} (h : AWs C [c] (fun e s => ∃ τ, Says C s τ ∧ Q e τ) σ) : AWs C [c] Q σ := by
  have h1 := aws_one h
  intro a w hr
  refine wpIn_mono (h1 a w hr) ?_
  rintro e a' w' ⟨s, ⟨τ, h2, h3⟩, h4⟩
  cases e <;> exact ⟨τ, h3, h2 _ _ h4⟩
/-- the bitwise complement of a whole number -/
theorem lop_icomp {C : Ctx} {o : Oper} {σ : St} {t : TypeId} {x : Operand} {n m : Int} (ho : o.op = .unOp .xor t x) (hx : σ.look x = .p (.v (.int .i64 n))) (hn : -9223372036854775808 ≤ n ∧ n ≤ 9223372036854775807) (hm : -n - 1 = m) (hd : dOk C o.dst = true) : LOp C o σ ⟨.p (.v (.int .i64 m)), []⟩ (fun _ => false) :=
  lop_val hd fun τ a' w G hl hm' h => by
    have e1 := val_of h ((hl x (by simp [ho, Op.operands])).trans hx)
    have e3 : (BitVec.ofInt 64 (-1) ^^^ BitVec.ofInt 64 n).toNat = 2 ^ 64 - 1 - (BitVec.ofInt 64 n).toNat := by
      rw [show BitVec.ofInt 64 (-1) = BitVec.allOnes 64 by decide, BitVec.allOnes_xor, BitVec.toNat_not]
    have e4 : IntKind.i64.wrap ((2 ^ 64 - 1 - (BitVec.ofInt 64 n).toNat : Nat) : Int) = m := by
      rw [BitVec.toNat_ofInt, IntKind.wrap_i64]
      omega
    have e2 : (Op.unary .xor (.int .i64 n)).run C.P w = .ok (.int .i64 m) w := by
      simp only [Op.unary, show IntKind.i64.signed = true from rfl, if_true]
      show (Op.intBits .xor .i64 (-1) n).run C.P w = _
      show Result.ok (Value.int .i64 (IntKind.i64.wrap ((BitVec.ofInt 64 (-1) ^^^ BitVec.ofInt 64 n).toNat : Int))) w = _
      rw [e3, e4]
    exact ⟨_, by simp only [execOp, ho, e1, Sem.run_bind, e2, Result.andThen_ok]; rfl, rfl, rfl⟩
end Go.Aw
namespace Go.Proofs.YtclcfjejpogdlaaGreat.Wi
open Go Go.RowKit Go.Aw Go.Aw.Cart Go.Proofs.YtclcfjejpogdlaaGreat.Ca
set_option linter.unusedVariables false
set_option linter.unusedSimpArgs false
set_option maxRecDepth 8000
set_option maxHeartbeats 4000000
namespace W5
theorem lopC {C : Ctx} {o : Oper} {σ : St} {e : Eff} {ro : Nat → Bool} (h : LOp C o σ e ro := by
    first | (apply lop_icomp; (focus rfl); (focus rfl); (focus first | assumption | omega); (focus first | assumption | rfl); (focus rfl)) | (apply lop_ixv; (focus rfl); (focus exact inferInstance); (focus exact inferInstance); (focus rfl); (focus rfl); (focus exact inferInstance); (focus omega); (focus omega); (focus omega); (focus rfl); (focus rfl); (focus rfl); (focus rfl)) | exact W4.lopC | fail) : LOp C o σ e ro := h
section steps
variable {C : Ctx} {ops : Array Oper} {o : Oper} {rest : List Oper} {K : St → Prop} {σ : St} {e : Eff} {ro : Nat → Bool} {W : List (Nat × Nat)} {i : Nat}
theorem rnC {d : Nat} (hk : RunN C ops rest K (e.app (some d) σ)) (hg : Guard ops σ o true := by first | exact gd_n rfl rfl | exact gd_t rfl rfl rfl rfl | exact gd_t rfl rfl rfl (by assumption)) (hd : o.dst = some d := by rfl) (h : LOp C o σ e ro := by exact lopC) : RunN C ops (o :: rest) K σ := rn_any hg hd h hk
end steps
end W5
open W5
theorem numI_nat (m : Nat) : numI (m : Int) = numB m := by unfold numI; rw [Int.toNat_natCast]
theorem numI_len (x : Int) : (numI x).length ≤ 9 := by
  unfold numI numB
  rw [List.length_cons]
  have : (be x.toNat).length ≤ 8 := beF_le 8 _
  omega
theorem intB_len (x : Int) : (intB x).length ≤ 9 := by
  have := numI_len ((zig x : Nat) : Int)
  rwa [numI_nat] at this
theorem flat_len {α : Type} {f : α → List Nat} {k : Nat} : ∀ {l : List α}, (∀ a ∈ l, (f a).length ≤ k) → (l.flatMap f).length ≤ k * l.length
  | [], _ => by simp
  | a :: l, h => by
    have h1 := h a List.mem_cons_self
    have h2 := flat_len (f := f) (k := k) (l := l) fun x hx => h x (List.mem_cons_of_mem _ hx)
    rw [List.flatMap_cons, List.length_append, List.length_cons, Nat.mul_succ]; omega
theorem entB_len (e : Ent) : (entB e).length ≤ 36 := by
  have := numI_len e.1; have := numI_len e.2.1; have := numI_len e.2.2.1; have := intB_len e.2.2.2
  unfold entB
  rw [List.length_append, List.length_append, List.length_append]; omega
theorem cartB_len {v : List Int} {l : List Ent} (hv : vecOk v) (hr : rightF v l = true) : (cartB (v, l)).length ≤ 20000 := by
  have hl : l.length ≤ 400 := (ok_iff.1 hr).few
  have h1 : (vecB v).length ≤ 9 * v.length := flat_len fun a _ => numI_len a
  have h2 : (l.flatMap entB).length ≤ 36 * l.length := flat_len fun a _ => entB_len a
  have h3 := numI_len (l.length : Int)
  rw [numI_nat] at h3
  have h8 := hv.1
  unfold cartB
  rw [List.length_append, List.length_append]
  dsimp only
  omega
instance numI_i {c g n : Nat} {bs : List Nat} {x : Int} : OC Tryz.prog 93 [.o (.ptr c g 0), .p (.k .u64 x)] [(c, (n, some (.abs (wrA bs))))] [] (n = g + 1 ∧ (0 ≤ x ∧ x < 18446744073709551616) ∧ bs.length ≤ 1000000000) (.tup []) [(c, (n, some (.abs (wrA (bs ++ numI x)))))] := ⟨fun h => by
  obtain ⟨rfl, h1, h2⟩ := h
  obtain ⟨m, rfl⟩ : ∃ m : Nat, x = m := ⟨x.toNat, by omega⟩
  rw [numI_nat]
  exact (num_o g bs m (by omega) h2).one c⟩
theorem or_one (a : Nat) : (a * 2 ||| 1) = a * 2 + 1 := by
  have := Nat.shiftLeft_add_eq_or_of_lt (i := 1) (show 1 < 2 ^ 1 by decide) a
  rw [Nat.shiftLeft_eq] at this
  exact this.symm
theorem wint_o (n : Nat) (bs : List Nat) (x : Int) (hx : -9223372036854775808 ≤ x ∧ x ≤ 9223372036854775807) (h : bs.length ≤ 1000000000) : OCall Tryz.prog 210 [.o (.ptr 1000 n 0), .p (.i x)] (memL [(1000, (n + 1, some (.abs (wrA bs))))]) (.tup []) (memL [(1000, (n + 1, some (.abs (wrA (bs ++ intB x)))))]) := by
  refine ocall_of1 Tryz.func210 rfl (fun w0 F S0 M0 => ?_)
  have hmd : md .u64 = 18446744073709551616 := rfl
  by_cases h0 : 0 ≤ x
  · obtain ⟨q, rfl⟩ : ∃ q : Nat, x = q := ⟨x.toNat, by omega⟩
    have d1 : decide (0 ≤ (q : Int)) = true := decide_eq_true h0
    have e0 : q % md .u64 * 2 ^ (1 : Int).toNat % md .u64 = 2 * q := by
      rw [hmd, show 2 ^ (1 : Int).toNat = 2 from rfl]; omega
    have e : intB (q : Int) = numB (q % md .u64 * 2 ^ (1 : Int).toNat % md .u64) := by
      rw [e0]; unfold intB zig; rw [if_pos h0]; congr 1; try omega
    have b1 : q % md .u64 * 2 ^ (1 : Int).toNat % md .u64 < 18446744073709551616 := by rw [e0]; omega
    rw [e]
    as_aux_lemma =>
      repeat' (first | refine rnC ?_ | refine rnSB ?_ | refine rnG ?_ | refine rnU ?_ | ((fail_if_success (refine rnKn ?_)); refine rnP ?_ ?_ <;> (intro hq; try (have hq' := hq; simp only [hqs] at hq'))) | refine rkC ?_ | refine rkSB ?_ | refine rkF ?_ | refine rkU ?_ | ((fail_if_success (refine rkKn ?_)); refine rkP ?_ ?_ <;> (intro hq; try (have hq' := hq; simp only [hqs] at hq'))) | refine stp ?_ | refine ifT ?_ | refine ifF ?_ | (refine ifQ ?_ ?_ <;> (try (intro hn))) | (refine ifB ?_ ?_ <;> (intro hq; try (have hq' := hq; simp only [hqs] at hq'))))
      exact RetO.mk (res0 rfl rfl) ⟨.abs, trivial⟩
  · obtain ⟨q, rfl⟩ : ∃ q : Nat, x = -(q : Int) - 1 := ⟨(-x - 1).toNat, by omega⟩
    have d1 : decide (0 ≤ -(q : Int) - 1) = false := decide_eq_false h0
    have hq : -(-(q : Int) - 1) - 1 = (q : Int) := by omega
    have e0 : (q % md .u64 * 2 ^ (1 : Int).toNat % md .u64 % md .u64 ||| 1 % md .u64) = 2 * q + 1 := by
      rw [hmd, show 2 ^ (1 : Int).toNat = 2 from rfl, show q % 18446744073709551616 * 2 % 18446744073709551616 % 18446744073709551616 = q * 2 by omega, show 1 % 18446744073709551616 = 1 from rfl, or_one]; omega
    have e : intB (-(q : Int) - 1) = numB (q % md .u64 * 2 ^ (1 : Int).toNat % md .u64 % md .u64 ||| 1 % md .u64) := by
      rw [e0]; unfold intB zig; rw [if_neg h0]; congr 1; try omega
    have b1 : (q % md .u64 * 2 ^ (1 : Int).toNat % md .u64 % md .u64 ||| 1 % md .u64) < 18446744073709551616 := by rw [e0]; omega
    rw [e]
    as_aux_lemma =>
      repeat' (first | refine rnC ?_ | refine rnSB ?_ | refine rnG ?_ | refine rnU ?_ | ((fail_if_success (refine rnKn ?_)); refine rnP ?_ ?_ <;> (intro hq; try (have hq' := hq; simp only [hqs] at hq'))) | refine rkC ?_ | refine rkSB ?_ | refine rkF ?_ | refine rkU ?_ | ((fail_if_success (refine rkKn ?_)); refine rkP ?_ ?_ <;> (intro hq; try (have hq' := hq; simp only [hqs] at hq'))) | refine stp ?_ | refine ifT ?_ | refine ifF ?_ | (refine ifQ ?_ ?_ <;> (try (intro hn))) | (refine ifB ?_ ?_ <;> (intro hq; try (have hq' := hq; simp only [hqs] at hq'))))
      exact RetO.mk (res0 rfl rfl) ⟨.abs, trivial⟩
instance wint_i {c g n : Nat} {bs : List Nat} {x : Int} : OC Tryz.prog 210 [.o (.ptr c g 0), .p (.i x)] [(c, (n, some (.abs (wrA bs))))] [] (n = g + 1 ∧ (-9223372036854775808 ≤ x ∧ x ≤ 9223372036854775807) ∧ bs.length ≤ 1000000000) (.tup []) [(c, (n, some (.abs (wrA (bs ++ intB x)))))] := ⟨fun h => by obtain ⟨rfl, h1, h2⟩ := h; exact (wint_o g bs x h1 h2).one c⟩
theorem flat_take {α : Type} [Inhabited α] (f : α → List Nat) {l : List α} {i : Nat} (h : i < l.length) : (l.take (i + 1)).flatMap f = (l.take i).flatMap f ++ f (l.getD i default) := by
  rw [List.take_succ_eq_append_getElem h, List.flatMap_append, getD_at h]; simp
theorem ren_vV (c : Nat) (v : List Int) : AV.ren (rn1 c) (vV v) = vV v := by
  show AV.a ((v.map _).map _) = _
  rw [List.map_map]; rfl
theorem wvec_o (n : Nat) (bs : List Nat) (v : List Int) (hv : v.length = 8) (hb : ∀ x ∈ v, 0 ≤ x ∧ x < 18446744073709551616) (h : bs.length ≤ 900000000) : OCall Tryz.prog 228 [.o (.ptr 1000 n 0), vV v] (memL [(1000, (n + 1, some (.abs (wrA bs))))]) (.tup []) (memL [(1000, (n + 1, some (.abs (wrA (bs ++ vecB v)))))]) := by
  refine ocall_of1 Tryz.func228 rfl (fun w0 F S0 M0 => ?_)
  repeat' (first | refine rnC ?_ | refine rnSB ?_ | refine rnG ?_ | refine rnU ?_ | ((fail_if_success (refine rnKn ?_)); refine rnP ?_ ?_ <;> (intro hq; try (have hq' := hq; simp only [hqs] at hq'))) | refine rkC ?_ | refine rkSB ?_ | refine rkF ?_ | refine rkU ?_ | ((fail_if_success (refine rkKn ?_)); refine rkP ?_ ?_ <;> (intro hq; try (have hq' := hq; simp only [hqs] at hq'))) | refine stp ?_ | refine ifT ?_ | refine ifF ?_ | (refine ifQ ?_ ?_ <;> (try (intro hn))) | (refine ifB ?_ ?_ <;> (intro hq; try (have hq' := hq; simp only [hqs] at hq'))))
  refine aws_loopS [5, 7, 8, 9, 10, 11, 12, 13] [1000] (fun (x : Nat × List Nat) => [(7, .p (.i x.1))]) (fun x => [(1000, (n + 1, some (.abs (wrA x.2))))]) (fun x => x.1 ≤ 8 ∧ x.2 = bs ++ (v.take x.1).flatMap numI ∧ x.2.length ≤ bs.length + 9 * x.1) (fun x => 8 - x.1) (0, bs) ⟨Nat.zero_le _, by simp, by simp⟩ (by exact knA) (by exact knA) ?_
  rintro ⟨i, L⟩ β γ ⟨hi, hL, hl⟩
  dsimp only at hi hL hl ⊢
  by_cases hi8 : i < 8
  · have d1 : decide ((i : Int) < 8) = true := decide_eq_true (by omega)
    have ei : (i : Int).toNat = i := Int.toNat_natCast i
    have hx := hb (v.getD (i : Int).toNat default) (by rw [ei, getD_at (by omega)]; exact List.getElem_mem _)
    have hs : L ++ numI (v.getD (i : Int).toNat default) = bs ++ (v.take (i + 1)).flatMap numI := by rw [ei, flat_take numI (by omega), hL, List.append_assoc]
    have hsl := numI_len (v.getD (i : Int).toNat default)
    as_aux_lemma =>
      repeat' (first | refine rnC ?_ | refine rnSB ?_ | refine rnG ?_ | refine rnU ?_ | ((fail_if_success (refine rnKn ?_)); refine rnP ?_ ?_ <;> (intro hq; try (have hq' := hq; simp only [hqs] at hq'))) | refine rkC ?_ | refine rkSB ?_ | refine rkF ?_ | refine rkU ?_ | ((fail_if_success (refine rkKn ?_)); refine rkP ?_ ?_ <;> (intro hq; try (have hq' := hq; simp only [hqs] at hq'))) | refine stp ?_ | refine ifT ?_ | refine ifF ?_ | (refine ifQ ?_ ?_ <;> (try (intro hn))) | (refine ifB ?_ ?_ <;> (intro hq; try (have hq' := hq; simp only [hqs] at hq'))))
      exact ⟨(i + 1, L ++ numI (v.getD (i : Int).toNat default)), _, by dsimp only; omega, ⟨by dsimp only; omega, hs, by dsimp only; rw [List.length_append]; omega⟩, .refl, by exact frA⟩
  · have d1 : decide ((i : Int) < 8) = false := decide_eq_false (by omega)
    rw [List.take_of_length_le (by omega)] at hL
    rw [show bs ++ vecB v = L by rw [hL]; rfl]
    as_aux_lemma =>
      repeat' (first | refine rnC ?_ | refine rnSB ?_ | refine rnG ?_ | refine rnU ?_ | ((fail_if_success (refine rnKn ?_)); refine rnP ?_ ?_ <;> (intro hq; try (have hq' := hq; simp only [hqs] at hq'))) | refine rkC ?_ | refine rkSB ?_ | refine rkF ?_ | refine rkU ?_ | ((fail_if_success (refine rkKn ?_)); refine rkP ?_ ?_ <;> (intro hq; try (have hq' := hq; simp only [hqs] at hq'))) | refine stp ?_ | refine ifT ?_ | refine ifF ?_ | (refine ifQ ?_ ?_ <;> (try (intro hn))) | (refine ifB ?_ ?_ <;> (intro hq; try (have hq' := hq; simp only [hqs] at hq'))))
      exact RetO.mk (res0 rfl rfl) ⟨.abs, trivial⟩
theorem wtext_o (n : Nat) (bs b : List Nat) (ex : Bool) (hb : b.length ≤ 1000000) (h : bs.length ≤ 900000000) : OCall Tryz.prog 132 [.o (.ptr 1000 n 0), .p (.sl 1 (b.map bR) ex)] (memL [(1000, (n + 1, some (.abs (wrA bs))))]) (.tup []) (memL [(1000, (n + 1, some (.abs (wrA (bs ++ textB b)))))]) := by
  refine ocall_of1 Tryz.func132 rfl (fun w0 F S0 M0 => ?_)
  have hmd : md .u64 = 18446744073709551616 := rfl
  have e0 : b.length % md .u64 = b.length := by rw [hmd]; omega
  have b1 : b.length % md .u64 < 18446744073709551616 := by rw [e0]; omega
  have hsl := numI_len ((b.length % md .u64 : Nat) : Int)
  rw [numI_nat] at hsl
  have e : textB b = numB (b.length % md .u64) ++ b := by unfold textB; rw [e0]
  rw [e, ← List.append_assoc]
  have hl2 : (bs ++ numB (b.length % md .u64)).length ≤ 900000009 := by rw [List.length_append]; omega
  refine aws_endS ?_
  repeat' (first | refine rnC ?_ | refine rnSB ?_ | refine rnG ?_ | refine rnU ?_ | ((fail_if_success (refine rnKn ?_)); refine rnP ?_ ?_ <;> (intro hq; try (have hq' := hq; simp only [hqs] at hq'))) | refine rkC ?_ | refine rkSB ?_ | refine rkF ?_ | refine rkU ?_ | ((fail_if_success (refine rkKn ?_)); refine rkP ?_ ?_ <;> (intro hq; try (have hq' := hq; simp only [hqs] at hq'))) | refine stp ?_ | refine ifT ?_ | refine ifF ?_ | (refine ifQ ?_ ?_ <;> (try (intro hn))) | (refine ifB ?_ ?_ <;> (intro hq; try (have hq' := hq; simp only [hqs] at hq'))))
  generalize bs ++ numB (b.length % md .u64) = L at hl2 ⊢
  refine rn_says (says_unpack' (p := 1000) (o := 901) rfl rfl (List.length_map _) rfl (by decide)) rfl ?_
  as_aux_lemma =>
    repeat' (first | refine rnC ?_ | refine rnSB ?_ | refine rnG ?_ | refine rnU ?_ | ((fail_if_success (refine rnKn ?_)); refine rnP ?_ ?_ <;> (intro hq; try (have hq' := hq; simp only [hqs] at hq'))) | refine rkC ?_ | refine rkSB ?_ | refine rkF ?_ | refine rkU ?_ | ((fail_if_success (refine rkKn ?_)); refine rkP ?_ ?_ <;> (intro hq; try (have hq' := hq; simp only [hqs] at hq'))) | refine stp ?_ | refine ifT ?_ | refine ifF ?_ | (refine ifQ ?_ ?_ <;> (try (intro hn))) | (refine ifB ?_ ?_ <;> (intro hq; try (have hq' := hq; simp only [hqs] at hq'))))
    exact ⟨_, says_pack (p := 1000) (o := 901) (pre := []) (post := []) rfl rfl rfl rfl (by rw [List.length_map]) (by decide), RetO.mk (res0 rfl rfl) ⟨.abs, trivial⟩⟩
instance wtext_i {c g n : Nat} {bs b : List Nat} {ex : Bool} : OC Tryz.prog 132 [.o (.ptr c g 0), .p (.sl 1 (b.map bR) ex)] [(c, (n, some (.abs (wrA bs))))] [] (n = g + 1 ∧ b.length ≤ 1000000 ∧ bs.length ≤ 900000000) (.tup []) [(c, (n, some (.abs (wrA (bs ++ textB b)))))] := ⟨fun h => by obtain ⟨rfl, h1, h2⟩ := h; exact (wtext_o g bs b ex h1 h2).one c⟩
end Go.Proofs.YtclcfjejpogdlaaGreat.Wi
