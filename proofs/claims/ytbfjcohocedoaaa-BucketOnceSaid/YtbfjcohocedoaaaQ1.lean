/- wire: a writer's whole numbers, vectors and texts; wire: a reader's whole numbers, texts and vectors; its end -/
import Derived.Test.YtbfjcohocedoaaaQ0
import Derived.Test.YtbfjcohocedoaaaCw4
import Derived.Test.YtbfjcohocedoaaaKz
namespace Go.Aw
open Go Go.RowKit
/-- what a body ends with, said in another way -/
theorem aws_endS {C : Ctx} {Q : Exit → St → Prop} {σ : St} {c : Code} (h : AWs C [c] (fun e s => ∃ τ, Says C s τ ∧ Q e τ) σ) : AWs C [c] Q σ := by
  have h1 := aws_one h
  intro a w hr
  refine wpIn_mono (h1 a w hr) ?_
  rintro e a' w' ⟨s, ⟨τ, h2, h3⟩, h4⟩
  cases e <;> exact ⟨τ, h3, h2 _ _ h4⟩
/-- the bitwise complement of a whole number -/
theorem lop_icomp {C : Ctx} {o : Oper} {σ : St} {t : TypeId} {x : Operand} {n m : Int} (ho : o.op = .unOp .xor t x) (hx : σ.look x = .p (.v (.int .i64 n))) (hn : -9223372036854775808 ≤ n ∧ n ≤ 9223372036854775807) (hm : -n - 1 = m) (hd : dOk C o.dst = true) : LOp C o σ ⟨.p (.v (.int .i64 m)), []⟩ (fun _ => false) :=
  lop_val hd fun τ a' w G hl hm' h => by
    have e1 := val_of h ((hl x (by simp [ho, Op.operands])).trans hx)
    have e3 : (BitVec.ofInt 64 (-1) ^^^ BitVec.ofInt 64 n).toNat = 2 ^ 64 - 1 - (BitVec.ofInt 64 n).toNat := by
      rw [show BitVec.ofInt 64 (-1) = BitVec.allOnes 64 by decide, BitVec.allOnes_xor, BitVec.toNat_not]
    have e4 : IntKind.i64.wrap ((2 ^ 64 - 1 - (BitVec.ofInt 64 n).toNat : Nat) : Int) = m := by
      rw [BitVec.toNat_ofInt, IntKind.wrap_i64]
      omega
    have e2 : (Op.unary .xor (.int .i64 n)).run C.P w = .ok (.int .i64 m) w := by
      simp only [Op.unary, show IntKind.i64.signed = true from rfl, if_true]
      show (Op.intBits .xor .i64 (-1) n).run C.P w = _
      show Result.ok (Value.int .i64 (IntKind.i64.wrap ((BitVec.ofInt 64 (-1) ^^^ BitVec.ofInt 64 n).toNat : Int))) w = _
      rw [e3, e4]
    exact ⟨_, by simp only [execOp, ho, e1, Sem.run_bind, e2, Result.andThen_ok]; rfl, rfl, rfl⟩
end Go.Aw
namespace Go.Proofs.Ytbfjcohocedoaaa.Wi
open Go Go.RowKit Go.Aw Go.Aw.Cart Go.Proofs.Ytbfjcohocedoaaa.Ca
set_option linter.unusedVariables false
set_option linter.unusedSimpArgs false
set_option maxRecDepth 8000
set_option maxHeartbeats 4000000
namespace W5
theorem lopC {C : Ctx} {o : Oper} {σ : St} {e : Eff} {ro : Nat → Bool} (h : LOp C o σ e ro := by
    first
      | (apply lop_icomp; (focus rfl); (focus rfl); (focus first | assumption | omega); (focus first | assumption | rfl); (focus rfl))
      | (apply lop_ixv; (focus rfl); (focus exact inferInstance); (focus exact inferInstance); (focus rfl); (focus rfl); (focus exact inferInstance); (focus omega); (focus omega); (focus omega); (focus rfl); (focus rfl); (focus rfl); (focus rfl))
      | exact W4.lopC
      | fail) : LOp C o σ e ro := h
section steps
variable {C : Ctx} {ops : Array Oper} {o : Oper} {rest : List Oper} {K : St → Prop} {σ : St} {e : Eff} {ro : Nat → Bool} {W : List (Nat × Nat)} {i : Nat}
theorem rnC {d : Nat} (hk : RunN C ops rest K (e.app (some d) σ)) (hg : Guard ops σ o true := by first | exact gd_n rfl rfl | exact gd_t rfl rfl rfl rfl | exact gd_t rfl rfl rfl (by assumption)) (hd : o.dst = some d := by rfl) (h : LOp C o σ e ro := by exact lopC) : RunN C ops (o :: rest) K σ := rn_any hg hd h hk
theorem rkC {d : Nat} (hk : RunK C ops W (i + 1) rest K (e.app (some d) σ)) (hg : Guard ops σ o true := by first | exact gd_n rfl rfl | exact gd_t rfl rfl rfl rfl | exact gd_t rfl rfl rfl (by assumption)) (hd' : o.dst = some d := by rfl) (hd : dOk C o.dst = true := by rfl) (h : LOp C o σ e ro := by exact lopC)
    (hro : ∀ x, ro x = true → okObj ops W i x = true := by first | exact fun _ => ro_none | exact ro_one rfl | exact ro_k1 rfl | exact ro_one (by kernel_rfl) | exact ro_k1 (by kernel_rfl) | exact ro_kIn (by decide)) (hob : ∀ p ∈ e.obj, (i, p.1) ∈ W := by first | exact ob_none | exact ob_one (by decide) | decide) : RunK C ops W i (o :: rest) K σ := rk_wr hg hd' hd h hro hob hk
end steps
end W5
open W5
theorem numI_nat (m : Nat) : numI (m : Int) = numB m := by unfold numI; rw [Int.toNat_natCast]
theorem numI_len (x : Int) : (numI x).length ≤ 9 := by
  unfold numI numB
  rw [List.length_cons]
  have : (be x.toNat).length ≤ 8 := beF_le 8 _
  omega
theorem intB_len (x : Int) : (intB x).length ≤ 9 := by
  have := numI_len ((zig x : Nat) : Int)
  rwa [numI_nat] at this
theorem flat_len {α : Type} {f : α → List Nat} {k : Nat} : ∀ {l : List α}, (∀ a ∈ l, (f a).length ≤ k) → (l.flatMap f).length ≤ k * l.length
  | [], _ => by simp
  | a :: l, h => by
    have h1 := h a List.mem_cons_self
    have h2 := flat_len (f := f) (k := k) (l := l) fun x hx => h x (List.mem_cons_of_mem _ hx)
    rw [List.flatMap_cons, List.length_append, List.length_cons, Nat.mul_succ]; omega
theorem entB_len (e : Ent) : (entB e).length ≤ 36 := by
  have := numI_len e.1; have := numI_len e.2.1; have := numI_len e.2.2.1; have := intB_len e.2.2.2
  unfold entB
  rw [List.length_append, List.length_append, List.length_append]; omega
theorem cartB_len {v : List Int} {l : List Ent} (hv : vecOk v) (hr : rightF v l = true) : (cartB (v, l)).length ≤ 20000 := by
  have hl : l.length ≤ 400 := (ok_iff.1 hr).few
  have h1 : (vecB v).length ≤ 9 * v.length := flat_len fun a _ => numI_len a
  have h2 : (l.flatMap entB).length ≤ 36 * l.length := flat_len fun a _ => entB_len a
  have h3 := numI_len (l.length : Int)
  rw [numI_nat] at h3
  have h8 := hv.1
  unfold cartB
  rw [List.length_append, List.length_append]
  dsimp only
  omega
instance numI_i {c g n : Nat} {bs : List Nat} {x : Int} : OC Try.prog 54 [.o (.ptr c g 0), .p (.k .u64 x)] [(c, (n, some (.abs (wrA bs))))] [] (n = g + 1 ∧ (0 ≤ x ∧ x < 18446744073709551616) ∧ bs.length ≤ 1000000000) (.tup []) [(c, (n, some (.abs (wrA (bs ++ numI x)))))] := ⟨fun h => by
  obtain ⟨rfl, h1, h2⟩ := h
  obtain ⟨m, rfl⟩ : ∃ m : Nat, x = m := ⟨x.toNat, by omega⟩
  rw [numI_nat]
  exact (num_o g bs m (by omega) h2).one c⟩
theorem or_one (a : Nat) : (a * 2 ||| 1) = a * 2 + 1 := by
  have := Nat.shiftLeft_add_eq_or_of_lt (i := 1) (show 1 < 2 ^ 1 by decide) a
  rw [Nat.shiftLeft_eq] at this
  exact this.symm
theorem wint_o (n : Nat) (bs : List Nat) (x : Int) (hx : -9223372036854775808 ≤ x ∧ x ≤ 9223372036854775807) (h : bs.length ≤ 1000000000) : OCall Try.prog 60 [.o (.ptr 1000 n 0), .p (.i x)] (memL [(1000, (n + 1, some (.abs (wrA bs))))]) (.tup []) (memL [(1000, (n + 1, some (.abs (wrA (bs ++ intB x)))))]) := by
  refine ocall_of1 Try.func60 rfl (fun w0 F S0 M0 => ?_)
  have hmd : md .u64 = 18446744073709551616 := rfl
  by_cases h0 : 0 ≤ x
  · obtain ⟨q, rfl⟩ : ∃ q : Nat, x = q := ⟨x.toNat, by omega⟩
    have d1 : decide (0 ≤ (q : Int)) = true := decide_eq_true h0
    have e0 : q % md .u64 * 2 ^ (1 : Int).toNat % md .u64 = 2 * q := by
      rw [hmd, show 2 ^ (1 : Int).toNat = 2 from rfl]; omega
    have e : intB (q : Int) = numB (q % md .u64 * 2 ^ (1 : Int).toNat % md .u64) := by
      rw [e0]; unfold intB zig; rw [if_pos h0]; congr 1; try omega
    have b1 : q % md .u64 * 2 ^ (1 : Int).toNat % md .u64 < 18446744073709551616 := by rw [e0]; omega
    rw [e]
    as_aux_lemma =>
      repeat' (first
          | refine rnC ?_
          | refine rnSB ?_
          | refine rnG ?_
          | refine rnU ?_
          | ((fail_if_success (refine rnKn ?_)); refine rnP ?_ ?_ <;> (intro hq; try (have hq' := hq; simp only [hqs] at hq')))
          | refine rkC ?_
          | refine rkSB ?_
          | refine rkF ?_
          | refine rkU ?_
          | ((fail_if_success (refine rkKn ?_)); refine rkP ?_ ?_ <;> (intro hq; try (have hq' := hq; simp only [hqs] at hq')))
          | refine stp ?_
          | refine ifT ?_
          | refine ifF ?_
          | (refine ifQ ?_ ?_ <;> (try (intro hn)))
          | (refine ifB ?_ ?_ <;> (intro hq; try (have hq' := hq; simp only [hqs] at hq'))))
      exact RetO.mk (res0 rfl rfl) ⟨.abs, trivial⟩
  · obtain ⟨q, rfl⟩ : ∃ q : Nat, x = -(q : Int) - 1 := ⟨(-x - 1).toNat, by omega⟩
    have d1 : decide (0 ≤ -(q : Int) - 1) = false := decide_eq_false h0
    have hq : -(-(q : Int) - 1) - 1 = (q : Int) := by omega
    have e0 : (q % md .u64 * 2 ^ (1 : Int).toNat % md .u64 % md .u64 ||| 1 % md .u64) = 2 * q + 1 := by
      rw [hmd, show 2 ^ (1 : Int).toNat = 2 from rfl, show q % 18446744073709551616 * 2 % 18446744073709551616 % 18446744073709551616 = q * 2 by omega, show 1 % 18446744073709551616 = 1 from rfl, or_one]; omega
    have e : intB (-(q : Int) - 1) = numB (q % md .u64 * 2 ^ (1 : Int).toNat % md .u64 % md .u64 ||| 1 % md .u64) := by
      rw [e0]; unfold intB zig; rw [if_neg h0]; congr 1; try omega
    have b1 : (q % md .u64 * 2 ^ (1 : Int).toNat % md .u64 % md .u64 ||| 1 % md .u64) < 18446744073709551616 := by rw [e0]; omega
    rw [e]
    as_aux_lemma =>
      repeat' (first
          | refine rnC ?_
          | refine rnSB ?_
          | refine rnG ?_
          | refine rnU ?_
          | ((fail_if_success (refine rnKn ?_)); refine rnP ?_ ?_ <;> (intro hq; try (have hq' := hq; simp only [hqs] at hq')))
          | refine rkC ?_
          | refine rkSB ?_
          | refine rkF ?_
          | refine rkU ?_
          | ((fail_if_success (refine rkKn ?_)); refine rkP ?_ ?_ <;> (intro hq; try (have hq' := hq; simp only [hqs] at hq')))
          | refine stp ?_
          | refine ifT ?_
          | refine ifF ?_
          | (refine ifQ ?_ ?_ <;> (try (intro hn)))
          | (refine ifB ?_ ?_ <;> (intro hq; try (have hq' := hq; simp only [hqs] at hq'))))
      exact RetO.mk (res0 rfl rfl) ⟨.abs, trivial⟩
instance wint_i {c g n : Nat} {bs : List Nat} {x : Int} : OC Try.prog 60 [.o (.ptr c g 0), .p (.i x)] [(c, (n, some (.abs (wrA bs))))] [] (n = g + 1 ∧ (-9223372036854775808 ≤ x ∧ x ≤ 9223372036854775807) ∧ bs.length ≤ 1000000000) (.tup []) [(c, (n, some (.abs (wrA (bs ++ intB x)))))] := ⟨fun h => by obtain ⟨rfl, h1, h2⟩ := h; exact (wint_o g bs x h1 h2).one c⟩
theorem flat_take {α : Type} [Inhabited α] (f : α → List Nat) {l : List α} {i : Nat} (h : i < l.length) : (l.take (i + 1)).flatMap f = (l.take i).flatMap f ++ f (l.getD i default) := by
  rw [List.take_succ_eq_append_getElem h, List.flatMap_append, getD_at h]; simp
theorem ren_vV (c : Nat) (v : List Int) : AV.ren (rn1 c) (vV v) = vV v := by
  show AV.a ((v.map _).map _) = _
  rw [List.map_map]; rfl
theorem wvec_o (n : Nat) (bs : List Nat) (v : List Int) (hv : v.length = 8) (hb : ∀ x ∈ v, 0 ≤ x ∧ x < 18446744073709551616) (h : bs.length ≤ 900000000) : OCall Try.prog 59 [.o (.ptr 1000 n 0), vV v] (memL [(1000, (n + 1, some (.abs (wrA bs))))]) (.tup []) (memL [(1000, (n + 1, some (.abs (wrA (bs ++ vecB v)))))]) := by
  refine ocall_of1 Try.func59 rfl (fun w0 F S0 M0 => ?_)
  repeat' (first
      | refine rnC ?_
      | refine rnSB ?_
      | refine rnG ?_
      | refine rnU ?_
      | ((fail_if_success (refine rnKn ?_)); refine rnP ?_ ?_ <;> (intro hq; try (have hq' := hq; simp only [hqs] at hq')))
      | refine rkC ?_
      | refine rkSB ?_
      | refine rkF ?_
      | refine rkU ?_
      | ((fail_if_success (refine rkKn ?_)); refine rkP ?_ ?_ <;> (intro hq; try (have hq' := hq; simp only [hqs] at hq')))
      | refine stp ?_
      | refine ifT ?_
      | refine ifF ?_
      | (refine ifQ ?_ ?_ <;> (try (intro hn)))
      | (refine ifB ?_ ?_ <;> (intro hq; try (have hq' := hq; simp only [hqs] at hq'))))
  refine aws_loopS [5, 7, 8, 9, 10, 11, 12, 13] [1000] (fun (x : Nat × List Nat) => [(7, .p (.i x.1))]) (fun x => [(1000, (n + 1, some (.abs (wrA x.2))))]) (fun x => x.1 ≤ 8 ∧ x.2 = bs ++ (v.take x.1).flatMap numI ∧ x.2.length ≤ bs.length + 9 * x.1) (fun x => 8 - x.1) (0, bs) ⟨Nat.zero_le _, by simp, by simp⟩ (by exact knA) (by exact knA) ?_
  rintro ⟨i, L⟩ β γ ⟨hi, hL, hl⟩
  dsimp only at hi hL hl ⊢
  by_cases hi8 : i < 8
  · have d1 : decide ((i : Int) < 8) = true := decide_eq_true (by omega)
    have ei : (i : Int).toNat = i := Int.toNat_natCast i
    have hx := hb (v.getD (i : Int).toNat default) (by rw [ei, getD_at (by omega)]; exact List.getElem_mem _)
    have hs : L ++ numI (v.getD (i : Int).toNat default) = bs ++ (v.take (i + 1)).flatMap numI := by rw [ei, flat_take numI (by omega), hL, List.append_assoc]
    have hsl := numI_len (v.getD (i : Int).toNat default)
    as_aux_lemma =>
      repeat' (first
          | refine rnC ?_
          | refine rnSB ?_
          | refine rnG ?_
          | refine rnU ?_
          | ((fail_if_success (refine rnKn ?_)); refine rnP ?_ ?_ <;> (intro hq; try (have hq' := hq; simp only [hqs] at hq')))
          | refine rkC ?_
          | refine rkSB ?_
          | refine rkF ?_
          | refine rkU ?_
          | ((fail_if_success (refine rkKn ?_)); refine rkP ?_ ?_ <;> (intro hq; try (have hq' := hq; simp only [hqs] at hq')))
          | refine stp ?_
          | refine ifT ?_
          | refine ifF ?_
          | (refine ifQ ?_ ?_ <;> (try (intro hn)))
          | (refine ifB ?_ ?_ <;> (intro hq; try (have hq' := hq; simp only [hqs] at hq'))))
      exact ⟨(i + 1, L ++ numI (v.getD (i : Int).toNat default)), _, by dsimp only; omega, ⟨by dsimp only; omega, hs, by dsimp only; rw [List.length_append]; omega⟩, .refl, by exact frA⟩
  · have d1 : decide ((i : Int) < 8) = false := decide_eq_false (by omega)
    rw [List.take_of_length_le (by omega)] at hL
    rw [show bs ++ vecB v = L by rw [hL]; rfl]
    as_aux_lemma =>
      repeat' (first
          | refine rnC ?_
          | refine rnSB ?_
          | refine rnG ?_
          | refine rnU ?_
          | ((fail_if_success (refine rnKn ?_)); refine rnP ?_ ?_ <;> (intro hq; try (have hq' := hq; simp only [hqs] at hq')))
          | refine rkC ?_
          | refine rkSB ?_
          | refine rkF ?_
          | refine rkU ?_
          | ((fail_if_success (refine rkKn ?_)); refine rkP ?_ ?_ <;> (intro hq; try (have hq' := hq; simp only [hqs] at hq')))
          | refine stp ?_
          | refine ifT ?_
          | refine ifF ?_
          | (refine ifQ ?_ ?_ <;> (try (intro hn)))
          | (refine ifB ?_ ?_ <;> (intro hq; try (have hq' := hq; simp only [hqs] at hq'))))
      exact RetO.mk (res0 rfl rfl) ⟨.abs, trivial⟩
instance wvec_i {c g n : Nat} {bs : List Nat} {v : List Int} : OC Try.prog 59 [.o (.ptr c g 0), vV v] [(c, (n, some (.abs (wrA bs))))] [] (n = g + 1 ∧ v.length = 8 ∧ (∀ x ∈ v, 0 ≤ x ∧ x < 18446744073709551616) ∧ bs.length ≤ 900000000) (.tup []) [(c, (n, some (.abs (wrA (bs ++ vecB v)))))] := ⟨fun h => by obtain ⟨rfl, h1, h2, h3⟩ := h; have := (wvec_o g bs v h1 h2 h3).one c; rw [List.map_cons, List.map_cons, ren_vV] at this; exact this⟩
theorem wtext_o (n : Nat) (bs b : List Nat) (ex : Bool) (hb : b.length ≤ 1000000) (h : bs.length ≤ 900000000) : OCall Try.prog 55 [.o (.ptr 1000 n 0), .p (.sl 1 (b.map bR) ex)] (memL [(1000, (n + 1, some (.abs (wrA bs))))]) (.tup []) (memL [(1000, (n + 1, some (.abs (wrA (bs ++ textB b)))))]) := by
  refine ocall_of1 Try.func55 rfl (fun w0 F S0 M0 => ?_)
  have hmd : md .u64 = 18446744073709551616 := rfl
  have e0 : b.length % md .u64 = b.length := by rw [hmd]; omega
  have b1 : b.length % md .u64 < 18446744073709551616 := by rw [e0]; omega
  have hsl := numI_len ((b.length % md .u64 : Nat) : Int)
  rw [numI_nat] at hsl
  have e : textB b = numB (b.length % md .u64) ++ b := by unfold textB; rw [e0]
  rw [e, ← List.append_assoc]
  have hl2 : (bs ++ numB (b.length % md .u64)).length ≤ 900000009 := by rw [List.length_append]; omega
  refine aws_endS ?_
  repeat' (first
      | refine rnC ?_
      | refine rnSB ?_
      | refine rnG ?_
      | refine rnU ?_
      | ((fail_if_success (refine rnKn ?_)); refine rnP ?_ ?_ <;> (intro hq; try (have hq' := hq; simp only [hqs] at hq')))
      | refine rkC ?_
      | refine rkSB ?_
      | refine rkF ?_
      | refine rkU ?_
      | ((fail_if_success (refine rkKn ?_)); refine rkP ?_ ?_ <;> (intro hq; try (have hq' := hq; simp only [hqs] at hq')))
      | refine stp ?_
      | refine ifT ?_
      | refine ifF ?_
      | (refine ifQ ?_ ?_ <;> (try (intro hn)))
      | (refine ifB ?_ ?_ <;> (intro hq; try (have hq' := hq; simp only [hqs] at hq'))))
  generalize bs ++ numB (b.length % md .u64) = L at hl2 ⊢
  refine rn_says (says_unpack' (p := 1000) (o := 901) rfl rfl (List.length_map _) rfl (by decide)) rfl ?_
  as_aux_lemma =>
    repeat' (first
        | refine rnC ?_
        | refine rnSB ?_
        | refine rnG ?_
        | refine rnU ?_
        | ((fail_if_success (refine rnKn ?_)); refine rnP ?_ ?_ <;> (intro hq; try (have hq' := hq; simp only [hqs] at hq')))
        | refine rkC ?_
        | refine rkSB ?_
        | refine rkF ?_
        | refine rkU ?_
        | ((fail_if_success (refine rkKn ?_)); refine rkP ?_ ?_ <;> (intro hq; try (have hq' := hq; simp only [hqs] at hq')))
        | refine stp ?_
        | refine ifT ?_
        | refine ifF ?_
        | (refine ifQ ?_ ?_ <;> (try (intro hn)))
        | (refine ifB ?_ ?_ <;> (intro hq; try (have hq' := hq; simp only [hqs] at hq'))))
    exact ⟨_, says_pack (p := 1000) (o := 901) (pre := []) (post := []) rfl rfl rfl rfl (by rw [List.length_map]) (by decide), RetO.mk (res0 rfl rfl) ⟨.abs, trivial⟩⟩
instance wtext_i {c g n : Nat} {bs b : List Nat} {ex : Bool} : OC Try.prog 55 [.o (.ptr c g 0), .p (.sl 1 (b.map bR) ex)] [(c, (n, some (.abs (wrA bs))))] [] (n = g + 1 ∧ b.length ≤ 1000000 ∧ bs.length ≤ 900000000) (.tup []) [(c, (n, some (.abs (wrA (bs ++ textB b)))))] := ⟨fun h => by obtain ⟨rfl, h1, h2⟩ := h; exact (wtext_o g bs b ex h1 h2).one c⟩
end Go.Proofs.Ytbfjcohocedoaaa.Wi
namespace Go.Proofs.Ytbfjcohocedoaaa.Wi
open Go Go.RowKit Go.Aw Go.Aw.Cart Go.Proofs.Ytbfjcohocedoaaa.Ca
set_option linter.unusedVariables false
set_option linter.unusedSimpArgs false
set_option maxRecDepth 8000
set_option maxHeartbeats 4000000
/-- conversions whose result is known -/
theorem lop_conv_a {C : Ctx} {o : Oper} {σ : St} {s d : TypeId} {x : Operand} {k k' : IntKind} {n m : Int} {sz by_ : Nat} {ks : TK} {sz' by' : Nat} (ho : o.op = .convert s d x) (hT : TI C.P d (.int k') sz by_) (hS : TI C.P s ks sz' by') (hx : σ.look x = .p (.v (.int k n))) (hw : k'.wrap n = m) (hd : dOk C o.dst = true) : LOp C o σ ⟨.p (.v (.int k' m)), []⟩ (fun _ => false) := by
  have := lop_conv ho hx hd; rwa [hw] at this
namespace W6
theorem lopC {C : Ctx} {o : Oper} {σ : St} {e : Eff} {ro : Nat → Bool} (h : LOp C o σ e ro := by
    first
      | (apply lop_conv_a; (focus rfl); (focus exact inferInstance); (focus exact inferInstance); (focus rfl); (focus assumption); (focus rfl))
      | exact W5.lopC
      | fail) : LOp C o σ e ro := h
section steps
variable {C : Ctx} {ops : Array Oper} {o : Oper} {rest : List Oper} {K : St → Prop} {σ : St} {e : Eff} {ro : Nat → Bool} {W : List (Nat × Nat)} {i : Nat}
theorem rnC {d : Nat} (hk : RunN C ops rest K (e.app (some d) σ)) (hg : Guard ops σ o true := by first | exact gd_n rfl rfl | exact gd_t rfl rfl rfl rfl | exact gd_t rfl rfl rfl (by assumption)) (hd : o.dst = some d := by rfl) (h : LOp C o σ e ro := by exact lopC) : RunN C ops (o :: rest) K σ := rn_any hg hd h hk
theorem rkC {d : Nat} (hk : RunK C ops W (i + 1) rest K (e.app (some d) σ)) (hg : Guard ops σ o true := by first | exact gd_n rfl rfl | exact gd_t rfl rfl rfl rfl | exact gd_t rfl rfl rfl (by assumption)) (hd' : o.dst = some d := by rfl) (hd : dOk C o.dst = true := by rfl) (h : LOp C o σ e ro := by exact lopC)
    (hro : ∀ x, ro x = true → okObj ops W i x = true := by first | exact fun _ => ro_none | exact ro_one rfl | exact ro_k1 rfl | exact ro_one (by kernel_rfl) | exact ro_k1 (by kernel_rfl) | exact ro_kIn (by decide)) (hob : ∀ p ∈ e.obj, (i, p.1) ∈ W := by first | exact ob_none | exact ob_one (by decide) | decide) : RunK C ops W i (o :: rest) K σ := rk_wr hg hd' hd h hro hob hk
end steps
end W6
open W6
abbrev rdOk (r : RS) : Prop := (∀ b ∈ r.1, b < 256) ∧ r.1.length ≤ 1000000000
theorem Par.rd {α : Type} {P : RS → α × RS} (h : Par P) {r : RS} (hr : rdOk r) : rdOk (P r).2 := ⟨h.byte hr.1, Nat.le_trans (h.len r) hr.2⟩
theorem end_o (n : Nat) (r : RS) : OCall Try.prog 40 [.o (.ptr 1000 n 0)] (memL [(1000, (n + 1, some (rdM r)))]) (.p (.i (endS r))) (memL [(1000, (n + 1, some (rdM r)))]) := by
  refine ocall_of1 Try.func40 rfl (fun w0 F S0 M0 => ?_)
  unfold endS
  by_cases h : r.2 = 0
  · have d1 : decide (r.2 ≠ 0) = false := decide_eq_false fun q => q h
    rw [if_neg (fun q => q h)]
    by_cases hl : 0 < r.1.length
    · have d2 : decide (0 < (r.1.length : Int)) = true := decide_eq_true (by omega)
      rw [if_pos hl]
      as_aux_lemma =>
        repeat' (first
            | refine rnC ?_
            | refine rnSB ?_
            | refine rnG ?_
            | refine rnU ?_
            | ((fail_if_success (refine rnKn ?_)); refine rnP ?_ ?_ <;> (intro hq; try (have hq' := hq; simp only [hqs] at hq')))
            | refine rkC ?_
            | refine rkSB ?_
            | refine rkF ?_
            | refine rkU ?_
            | ((fail_if_success (refine rkKn ?_)); refine rkP ?_ ?_ <;> (intro hq; try (have hq' := hq; simp only [hqs] at hq')))
            | refine stp ?_
            | refine aws_draws [] mixed (by kernel_rfl) ?_
            | refine ifT ?_
            | refine ifF ?_
            | (refine ifQ ?_ ?_ <;> (try (intro hn)))
            | (refine ifB ?_ ?_ <;> (intro hq; try (have hq' := hq; simp only [hqs] at hq'))))
        exact RetO.mk (ot1 rfl rfl finS_p rfl) ⟨.box finL_p, trivial⟩
    · have d2 : decide (0 < (r.1.length : Int)) = false := decide_eq_false (by omega)
      rw [if_neg hl]
      as_aux_lemma =>
        repeat' (first
            | refine rnC ?_
            | refine rnSB ?_
            | refine rnG ?_
            | refine rnU ?_
            | ((fail_if_success (refine rnKn ?_)); refine rnP ?_ ?_ <;> (intro hq; try (have hq' := hq; simp only [hqs] at hq')))
            | refine rkC ?_
            | refine rkSB ?_
            | refine rkF ?_
            | refine rkU ?_
            | ((fail_if_success (refine rkKn ?_)); refine rkP ?_ ?_ <;> (intro hq; try (have hq' := hq; simp only [hqs] at hq')))
            | refine stp ?_
            | refine aws_draws [] mixed (by kernel_rfl) ?_
            | refine ifT ?_
            | refine ifF ?_
            | (refine ifQ ?_ ?_ <;> (try (intro hn)))
            | (refine ifB ?_ ?_ <;> (intro hq; try (have hq' := hq; simp only [hqs] at hq'))))
        exact RetO.mk (ot1 rfl rfl finS_p rfl) ⟨.box finL_p, trivial⟩
  · have d1 : decide (r.2 ≠ 0) = true := decide_eq_true h
    rw [if_pos h]
    as_aux_lemma =>
      repeat' (first
          | refine rnC ?_
          | refine rnSB ?_
          | refine rnG ?_
          | refine rnU ?_
          | ((fail_if_success (refine rnKn ?_)); refine rnP ?_ ?_ <;> (intro hq; try (have hq' := hq; simp only [hqs] at hq')))
          | refine rkC ?_
          | refine rkSB ?_
          | refine rkF ?_
          | refine rkU ?_
          | ((fail_if_success (refine rkKn ?_)); refine rkP ?_ ?_ <;> (intro hq; try (have hq' := hq; simp only [hqs] at hq')))
          | refine stp ?_
          | refine aws_draws [] mixed (by kernel_rfl) ?_
          | refine ifT ?_
          | refine ifF ?_
          | (refine ifQ ?_ ?_ <;> (try (intro hn)))
          | (refine ifB ?_ ?_ <;> (intro hq; try (have hq' := hq; simp only [hqs] at hq'))))
      exact RetO.mk (ot1 rfl rfl finS_p rfl) ⟨.box finL_p, trivial⟩
instance end_i {c g n : Nat} {r : RS} : OC Try.prog 40 [.o (.ptr c g 0)] [(c, (n, some (rdM r)))] [] (n = g + 1) (.p (.i (endS r))) [(c, (n, some (rdM r)))] := ⟨fun h => by subst h; exact (end_o g r).one c⟩
theorem rint_o (n : Nat) (r : RS) (hr : rdOk r) : OCall Try.prog 76 [.o (.ptr 1000 n 0)] (memL [(1000, (n + 1, some (rdM r)))]) (.p (.i (intS r).1)) (memL [(1000, (n + 1, some (rdM (intS r).2)))]) := by
  refine ocall_of1 Try.func76 rfl (fun w0 F S0 M0 => ?_)
  have hmd : md .u64 = 18446744073709551616 := rfl
  have hf := numS_fit hr.1
  have eI : intS r = okS (unz (numS r).1) 0 (mustS (zOk (numS r).1) (numS r).2) := rfl
  rw [eI]
  haveI : ∀ c g m : Nat, OC Try.prog 74 [.o (.ptr c g 0)] [(c, (m, some (rdM r)))] [] (m = g + 1) (.p (.k .u64 ((numS r).1 : Int))) [(c, (m, some (rdM (numS r).2)))] := fun c g m => ⟨fun h => by obtain rfl := h; exact (rnum_o g r hr.1 hr.2).one c⟩
  generalize numS r = q at hf ⊢ this
  obtain ⟨x, r1⟩ := q
  dsimp only at hf ⊢ this
  have hand : (x % md .u64 &&& 1 % md .u64) = x % 2 := by
    rw [hmd, show x % 18446744073709551616 = x by omega, show 1 % 18446744073709551616 = 2 ^ 1 - 1 from rfl, Nat.and_two_pow_sub_one_eq_mod]
  have hK : x / 2 ^ (1 : Int).toNat = x / 2 := rfl
  have hw : IntKind.i64.wrap ((x / 2 ^ (1 : Int).toNat : Nat) : Int) = ((x / 2 : Nat) : Int) := by rw [hK]; exact IntWalk.i64_in _ (by omega)
  have hcn : -9223372036854775808 ≤ ((x / 2 : Nat) : Int) ∧ ((x / 2 : Nat) : Int) ≤ 9223372036854775807 := by omega
  have fin : ∀ r2 : RS, okS (unz x) 0 r2 = (if r2.2 = 0 then unz x else 0, r2) := fun _ => rfl
  rw [fin]
  unfold zOk
  by_cases he : x % 2 = 0
  · have d1 : decide (((x % md .u64 &&& 1 % md .u64 : Nat) : Int) = 0) = true := decide_eq_true (by rw [hand]; omega)
    have d4 : decide (((x % md .u64 &&& 1 % md .u64 : Nat) : Int) = 1) = false := decide_eq_false (by rw [hand]; omega)
    have e2 : decide (x / 2 ≤ 4611686018427387904) = decide (((x / 2 ^ (1 : Int).toNat : Nat) : Int) ≤ 4611686018427387904) := by rw [hK]; exact decide_eq_decide.2 (by omega)
    have eu : unz x = ((x / 2 : Nat) : Int) := by unfold unz; rw [if_neg (by omega)]
    rw [if_pos he, e2, eu]
    by_cases hz : (mustS (decide (((x / 2 ^ (1 : Int).toNat : Nat) : Int) ≤ 4611686018427387904)) r1).2 = 0
    · have d2 : decide ((mustS (decide (((x / 2 ^ (1 : Int).toNat : Nat) : Int) ≤ 4611686018427387904)) r1).2 ≠ 0) = false := decide_eq_false fun q => q hz
      rw [if_pos hz]
      as_aux_lemma =>
        repeat' (first
            | refine rnC ?_
            | refine rnSB ?_
            | refine rnG ?_
            | refine rnU ?_
            | ((fail_if_success (refine rnKn ?_)); refine rnP ?_ ?_ <;> (intro hq; try (have hq' := hq; simp only [hqs] at hq')))
            | refine rkC ?_
            | refine rkSB ?_
            | refine rkF ?_
            | refine rkU ?_
            | ((fail_if_success (refine rkKn ?_)); refine rkP ?_ ?_ <;> (intro hq; try (have hq' := hq; simp only [hqs] at hq')))
            | refine stp ?_
            | refine ifT ?_
            | refine ifF ?_
            | (refine ifQ ?_ ?_ <;> (try (intro hn)))
            | (refine ifB ?_ ?_ <;> (intro hq; try (have hq' := hq; simp only [hqs] at hq'))))
        exact RetO.mk (ot1 rfl rfl finS_p rfl) ⟨.box finL_p, trivial⟩
    · have d2 : decide ((mustS (decide (((x / 2 ^ (1 : Int).toNat : Nat) : Int) ≤ 4611686018427387904)) r1).2 ≠ 0) = true := decide_eq_true hz
      rw [if_neg hz]
      as_aux_lemma =>
        repeat' (first
            | refine rnC ?_
            | refine rnSB ?_
            | refine rnG ?_
            | refine rnU ?_
            | ((fail_if_success (refine rnKn ?_)); refine rnP ?_ ?_ <;> (intro hq; try (have hq' := hq; simp only [hqs] at hq')))
            | refine rkC ?_
            | refine rkSB ?_
            | refine rkF ?_
            | refine rkU ?_
            | ((fail_if_success (refine rkKn ?_)); refine rkP ?_ ?_ <;> (intro hq; try (have hq' := hq; simp only [hqs] at hq')))
            | refine stp ?_
            | refine ifT ?_
            | refine ifF ?_
            | (refine ifQ ?_ ?_ <;> (try (intro hn)))
            | (refine ifB ?_ ?_ <;> (intro hq; try (have hq' := hq; simp only [hqs] at hq'))))
        exact RetO.mk (ot1 rfl rfl finS_p rfl) ⟨.box finL_p, trivial⟩
  · have d1 : decide (((x % md .u64 &&& 1 % md .u64 : Nat) : Int) = 0) = false := decide_eq_false (by rw [hand]; omega)
    have d4 : decide (((x % md .u64 &&& 1 % md .u64 : Nat) : Int) = 1) = true := decide_eq_true (by rw [hand]; omega)
    have e2 : decide (x / 2 < 4611686018427387904) = decide (((x / 2 ^ (1 : Int).toNat : Nat) : Int) < 4611686018427387904) := by rw [hK]; exact decide_eq_decide.2 (by omega)
    have eu : unz x = -((x / 2 : Nat) : Int) - 1 := by unfold unz; rw [if_pos (by omega)]
    rw [if_neg he, e2, eu]
    by_cases hz : (mustS (decide (((x / 2 ^ (1 : Int).toNat : Nat) : Int) < 4611686018427387904)) r1).2 = 0
    · have d2 : decide ((mustS (decide (((x / 2 ^ (1 : Int).toNat : Nat) : Int) < 4611686018427387904)) r1).2 ≠ 0) = false := decide_eq_false fun q => q hz
      rw [if_pos hz]
      as_aux_lemma =>
        repeat' (first
            | refine rnC ?_
            | refine rnSB ?_
            | refine rnG ?_
            | refine rnU ?_
            | ((fail_if_success (refine rnKn ?_)); refine rnP ?_ ?_ <;> (intro hq; try (have hq' := hq; simp only [hqs] at hq')))
            | refine rkC ?_
            | refine rkSB ?_
            | refine rkF ?_
            | refine rkU ?_
            | ((fail_if_success (refine rkKn ?_)); refine rkP ?_ ?_ <;> (intro hq; try (have hq' := hq; simp only [hqs] at hq')))
            | refine stp ?_
            | refine ifT ?_
            | refine ifF ?_
            | (refine ifQ ?_ ?_ <;> (try (intro hn)))
            | (refine ifB ?_ ?_ <;> (intro hq; try (have hq' := hq; simp only [hqs] at hq'))))
        exact RetO.mk (ot1 rfl rfl finS_p rfl) ⟨.box finL_p, trivial⟩
    · have d2 : decide ((mustS (decide (((x / 2 ^ (1 : Int).toNat : Nat) : Int) < 4611686018427387904)) r1).2 ≠ 0) = true := decide_eq_true hz
      rw [if_neg hz]
      as_aux_lemma =>
        repeat' (first
            | refine rnC ?_
            | refine rnSB ?_
            | refine rnG ?_
            | refine rnU ?_
            | ((fail_if_success (refine rnKn ?_)); refine rnP ?_ ?_ <;> (intro hq; try (have hq' := hq; simp only [hqs] at hq')))
            | refine rkC ?_
            | refine rkSB ?_
            | refine rkF ?_
            | refine rkU ?_
            | ((fail_if_success (refine rkKn ?_)); refine rkP ?_ ?_ <;> (intro hq; try (have hq' := hq; simp only [hqs] at hq')))
            | refine stp ?_
            | refine ifT ?_
            | refine ifF ?_
            | (refine ifQ ?_ ?_ <;> (try (intro hn)))
            | (refine ifB ?_ ?_ <;> (intro hq; try (have hq' := hq; simp only [hqs] at hq'))))
        exact RetO.mk (ot1 rfl rfl finS_p rfl) ⟨.box finL_p, trivial⟩
instance rint_i {c g n : Nat} {r : RS} : OC Try.prog 76 [.o (.ptr c g 0)] [(c, (n, some (rdM r)))] [] (n = g + 1 ∧ rdOk r) (.p (.i (intS r).1)) [(c, (n, some (rdM (intS r).2)))] := ⟨fun h => by obtain ⟨rfl, h⟩ := h; exact (rint_o g r h).one c⟩
theorem small_nat (most : Int) (r : RS) : ∃ k : Nat, (smallS most r).1 = k := by
  unfold smallS
  dsimp only
  split
  · exact ⟨_, rfl⟩
  · exact ⟨0, rfl⟩
theorem rtext_o (n : Nat) (r : RS) (most : Int) (hm : most ≤ 9223372036854775807) (hr : rdOk r) : OCall Try.prog 58 [.o (.ptr 1000 n 0), .p (.i most)] (memL [(1000, (n + 1, some (rdM r)))]) (.p (.sl 1 ((textS most r).1.map bR) false)) (memL [(1000, (n + 1, some (rdM (textS most r).2)))]) := by
  refine ocall_of1 Try.func58 rfl (fun w0 F S0 M0 => ?_)
  obtain ⟨k, hk⟩ := small_nat most r
  have e : textS most r = takeS k (smallS most r).2 := by
    show takeS (smallS most r).1.toNat (smallS most r).2 = _
    rw [hk, Int.toNat_natCast]
  rw [e]
  haveI : ∀ c g m : Nat, OC Try.prog 56 [.o (.ptr c g 0), .p (.i most)] [(c, (m, some (rdM r)))] [] (m = g + 1) (.p (.i (k : Int))) [(c, (m, some (rdM (smallS most r).2)))] := fun c g m => ⟨fun h => by obtain rfl := h; rw [← hk]; exact (small_o g r most hm hr.1 hr.2).one c⟩
  have h2 := (par_small most).rd hr
  have h3 : (takeS k (smallS most r).2).1.length ≤ 1000000000 := Nat.le_trans take_len.2.1 h2.2
  generalize (smallS most r).2 = r2 at h2 h3 ⊢ this
  as_aux_lemma =>
    repeat' (first
        | refine rnC ?_
        | refine rnSB ?_
        | refine rnG ?_
        | refine rnU ?_
        | ((fail_if_success (refine rnKn ?_)); refine rnP ?_ ?_ <;> (intro hq; try (have hq' := hq; simp only [hqs] at hq')))
        | refine rkC ?_
        | refine rkSB ?_
        | refine rkF ?_
        | refine rkU ?_
        | ((fail_if_success (refine rkKn ?_)); refine rkP ?_ ?_ <;> (intro hq; try (have hq' := hq; simp only [hqs] at hq')))
        | refine stp ?_
        | refine ifT ?_
        | refine ifF ?_
        | (refine ifQ ?_ ?_ <;> (try (intro hn)))
        | (refine ifB ?_ ?_ <;> (intro hq; try (have hq' := hq; simp only [hqs] at hq'))))
    exact RetO.mk (ot1 rfl rfl finS_p rfl) ⟨.box finL_p, trivial⟩
instance rtext_i {c g n : Nat} {r : RS} {most : Int} : OC Try.prog 58 [.o (.ptr c g 0), .p (.i most)] [(c, (n, some (rdM r)))] [] (n = g + 1 ∧ most ≤ 9223372036854775807 ∧ rdOk r) (.p (.sl 1 ((textS most r).1.map bR) false)) [(c, (n, some (rdM (textS most r).2)))] := ⟨fun h => by obtain ⟨rfl, h1, h⟩ := h; exact (rtext_o g r most h1 h).one c⟩
theorem set_rep (A : List Int) (k : Nat) (n z : Int) : (A ++ List.replicate (k + 1) z).set A.length n = (A ++ [n]) ++ List.replicate k z := by
  rw [List.replicate_succ, List.set_append_right _ _ (Nat.le_refl _), Nat.sub_self, List.set_cons_zero, List.append_assoc]; rfl
theorem rvec_o (n : Nat) (r : RS) (hr : rdOk r) : OCall Try.prog 62 [.o (.ptr 1000 n 0)] (memL [(1000, (n + 1, some (rdM r)))]) (vV (vecS r).1) (memL [(1000, (n + 1, some (rdM (vecS r).2)))]) := by
  refine ocall_of1 Try.func62 rfl (fun w0 F S0 M0 => ?_)
  have eV : vecS r = (if (allS numZ 8 r).2.2 = 0 then (allS numZ 8 r).1 else zeroV, (allS numZ 8 r).2) := rfl
  rw [eV]
  repeat' (first
      | refine rnC ?_
      | refine rnSB ?_
      | refine rnG ?_
      | refine rnU ?_
      | ((fail_if_success (refine rnKn ?_)); refine rnP ?_ ?_ <;> (intro hq; try (have hq' := hq; simp only [hqs] at hq')))
      | refine rkC ?_
      | refine rkSB ?_
      | refine rkF ?_
      | refine rkU ?_
      | ((fail_if_success (refine rkKn ?_)); refine rkP ?_ ?_ <;> (intro hq; try (have hq' := hq; simp only [hqs] at hq')))
      | refine stp ?_
      | refine ifT ?_
      | refine ifF ?_
      | (refine ifQ ?_ ?_ <;> (try (intro hn)))
      | (refine ifB ?_ ?_ <;> (intro hq; try (have hq' := hq; simp only [hqs] at hq'))))
  refine aws_loopS [4, 5, 6, 7, 8, 9, 10, 11, 12] [1000, 3] (fun (x : Nat × List Int × RS) => [(5, .p (.i x.1))]) (fun x => [(1000, (n + 1, some (rdM x.2.2))), (3, (1, some (.box 29 (x.2.1.map fun n => AC.p (.k .u64 n)))))])
    (fun x => x.1 ≤ 8 ∧ x.2.1 = (allS numZ x.1 r).1 ++ List.replicate (8 - x.1) 0 ∧ x.2.2 = (allS numZ x.1 r).2) (fun x => 8 - x.1) (0, zeroV, r) ⟨Nat.zero_le _, rfl, rfl⟩ (by exact knA) (by exact knA) ?_
  rintro ⟨i, u, r1⟩ β γ ⟨hi, hu, h1⟩
  dsimp only at hi hu h1 ⊢
  have la := all_len numZ i r
  have lu : u.length = 8 := by rw [hu, List.length_append, List.length_replicate, la]; omega
  by_cases hi8 : i < 8
  · have d1 : decide ((i : Int) < 8) = true := decide_eq_true (by omega)
    have hr1 : rdOk r1 := by rw [h1]; exact (par_all par_numZ i).rd hr
    have hb1 := hr1.1
    have hl1 := hr1.2
    have hs1 : u.set (i : Int).toNat ((numS r1).1 : Int) = (allS numZ (i + 1) r).1 ++ List.replicate (8 - (i + 1)) 0 := by
      rw [Int.toNat_natCast, hu, show 8 - i = (8 - (i + 1)) + 1 by omega]
      have := set_rep (allS numZ i r).1 (8 - (i + 1)) ((numS r1).1 : Int) 0
      rw [la] at this
      rw [this, h1]
      rfl
    have hs2 : (numS r1).2 = (allS numZ (i + 1) r).2 := by rw [h1]; rfl
    as_aux_lemma =>
      repeat' (first
          | refine rnC ?_
          | refine rnSB ?_
          | refine rnG ?_
          | refine rnU ?_
          | ((fail_if_success (refine rnKn ?_)); refine rnP ?_ ?_ <;> (intro hq; try (have hq' := hq; simp only [hqs] at hq')))
          | refine rkC ?_
          | refine rkSB ?_
          | refine rkF ?_
          | refine rkU ?_
          | ((fail_if_success (refine rkKn ?_)); refine rkP ?_ ?_ <;> (intro hq; try (have hq' := hq; simp only [hqs] at hq')))
          | refine stp ?_
          | refine ifT ?_
          | refine ifF ?_
          | (refine ifQ ?_ ?_ <;> (try (intro hn)))
          | (refine ifB ?_ ?_ <;> (intro hq; try (have hq' := hq; simp only [hqs] at hq'))))
      exact ⟨(i + 1, u.set (i : Int).toNat ((numS r1).1 : Int), (numS r1).2), _, by dsimp only; omega, ⟨by dsimp only; omega, hs1, hs2⟩, .refl, by exact frA⟩
  · have d1 : decide ((i : Int) < 8) = false := decide_eq_false (by omega)
    obtain rfl : i = 8 := by omega
    rw [← h1]
    have hu' : u = (allS numZ 8 r).1 := by rw [hu]; simp
    rw [← hu']
    by_cases hz : r1.2 = 0
    · have d2 : decide (r1.2 ≠ 0) = false := decide_eq_false fun q => q hz
      rw [if_pos hz]
      clear eV hu hu' h1 hz
      as_aux_lemma =>
        repeat' (first
            | refine rnC ?_
            | refine rnSB ?_
            | refine rnG ?_
            | refine rnU ?_
            | ((fail_if_success (refine rnKn ?_)); refine rnP ?_ ?_ <;> (intro hq; try (have hq' := hq; simp only [hqs] at hq')))
            | refine rkC ?_
            | refine rkSB ?_
            | refine rkF ?_
            | refine rkU ?_
            | ((fail_if_success (refine rkKn ?_)); refine rkP ?_ ?_ <;> (intro hq; try (have hq' := hq; simp only [hqs] at hq')))
            | refine stp ?_
            | refine ifT ?_
            | refine ifF ?_
            | (refine ifQ ?_ ?_ <;> (try (intro hn)))
            | (refine ifB ?_ ?_ <;> (intro hq; try (have hq' := hq; simp only [hqs] at hq'))))
        exact RetO.mk (oc1 rfl rfl rfl rfl rfl (by rw [List.length_map]; exact lu) finL_p rfl) ⟨.box finL_p, trivial⟩
    · have d2 : decide (r1.2 ≠ 0) = true := decide_eq_true hz
      rw [if_neg hz]
      clear eV hu hu' h1 hz
      as_aux_lemma =>
        repeat' (first
            | refine rnC ?_
            | refine rnSB ?_
            | refine rnG ?_
            | refine rnU ?_
            | ((fail_if_success (refine rnKn ?_)); refine rnP ?_ ?_ <;> (intro hq; try (have hq' := hq; simp only [hqs] at hq')))
            | refine rkC ?_
            | refine rkSB ?_
            | refine rkF ?_
            | refine rkU ?_
            | ((fail_if_success (refine rkKn ?_)); refine rkP ?_ ?_ <;> (intro hq; try (have hq' := hq; simp only [hqs] at hq')))
            | refine stp ?_
            | refine ifT ?_
            | refine ifF ?_
            | (refine ifQ ?_ ?_ <;> (try (intro hn)))
            | (refine ifB ?_ ?_ <;> (intro hq; try (have hq' := hq; simp only [hqs] at hq'))))
        exact RetO.mk (oc1 rfl rfl rfl rfl rfl rfl finL_p rfl) ⟨.box finL_p, trivial⟩
instance rvec_i {c g n : Nat} {r : RS} : OC Try.prog 62 [.o (.ptr c g 0)] [(c, (n, some (rdM r)))] [] (n = g + 1 ∧ rdOk r) (vV (vecS r).1) [(c, (n, some (rdM (vecS r).2)))] := ⟨fun h => by obtain ⟨rfl, h⟩ := h; have := (rvec_o g r h).one c; rw [ren_vV] at this; exact this⟩
end Go.Proofs.Ytbfjcohocedoaaa.Wi
