/- rings: the point of some bytes, the program's and the reference's; THE ABSTRACT WALK, part 30: a method's value; sync.Once's Do, as a contract on the object that holds the Once, out of a raw contract of Do and a contract of what is done. Nothing here speaks of a program.; THE ABSTRACT WALK, part 31: a call to which a function's value is handed that captured a variable with a pointer to an own object: both stay while it lasts. Nothing here speaks of a program.; THE ABSTRACT WALK, part 32: strings read byte by byte. Nothing here speaks of a program. -/
import Derived.Test.YtclcfjejpogdlaaGreatCS16
import Derived.Test.YtclcfjejpogdlaaGreatCS17
import Derived.Test.YtclcfjejpogdlaaGreatCS21
namespace Go.Proofs.YtclcfjejpogdlaaGreat.Rg
open Go Go.RowKit Go.Aw Go.Aw.Sha Go.Aw.Cart Go.Aw.Ord Go.Sort Go.Proofs.YtclcfjejpogdlaaGreat.Ca Go.Proofs.YtclcfjejpogdlaaGreat.Sh
set_option linter.unusedVariables false
set_option linter.unusedSimpArgs false
set_option maxRecDepth 8000
set_option maxHeartbeats 4000000
attribute [local irreducible] sum
/-- the first bytes as a number, the greatest ahead -/
def pv (S : List Nat) : Nat → Nat
  | 0 => 0
  | j + 1 => pv S j * 256 + S.getD j default
def pointF (b : List Nat) : Nat := pv (sum b) 8
theorem sum_okB (b : List Nat) : okB (sum b) := by
  unfold sum digest
  intro x hx
  obtain ⟨i, _, rfl⟩ := List.mem_map.1 hx
  exact Nat.mod_lt _ (by decide)
theorem getD_ok {S : List Nat} (h : okB S) (j : Nat) : S.getD j default < 256 := by
  rw [List.getD_eq_getElem?_getD]
  cases hj : S[j]? with
  | none => exact (by decide : 0 < 256)
  | some x => exact h x (List.mem_of_getElem? hj)
theorem pv_lt {S : List Nat} (h : okB S) : ∀ j, pv S j < 256 ^ j
  | 0 => Nat.one_pos
  | j + 1 => by
    have := pv_lt h j
    have := getD_ok h j
    rw [pv, Nat.pow_succ]; omega
theorem pv_fit {S : List Nat} (h : okB S) {j : Nat} (hj : j ≤ 8) : pv S j < 18446744073709551616 :=
  Nat.lt_of_lt_of_le (pv_lt h j) (show 256 ^ j ≤ 256 ^ 8 from Nat.pow_le_pow_right (by decide) hj)
/-- one byte more, as the machine does it -/
theorem byte_in {a c M : Nat} (ha : a * 256 + c < M) (hc : c < 256) : ((a * 256) % M % M ||| c % M % M) = a * 256 + c := by
  have h1 : c < M := by omega
  have h2 : a * 256 < M := Nat.lt_of_le_of_lt (Nat.le_add_right _ c) ha
  rw [Nat.mod_eq_of_lt h1, Nat.mod_eq_of_lt h1, Nat.mod_eq_of_lt h2, Nat.mod_eq_of_lt h2]
  have := Nat.shiftLeft_add_eq_or_of_lt (i := 8) (show c < 2 ^ 8 from hc) a
  rw [Nat.shiftLeft_eq] at this
  exact this.symm
/-- an own array's first places as a slice -/
theorem lop_sl_arh {C : Ctx} {o : Oper} {σ : St} {T e : TypeId} {x y : Operand} {n sz by_ : Nat} {ke : TK} {sze be : Nat} {ob g off : Nat} {k : IntKind} {m : Int} (ho : o.op = .slice T x none (some y) none) (hT : TI C.P T (.array n e) sz by_) (he : TI C.P e ke sze be) (hx : σ.look x = .o (.ptr ob g off)) (hy : σ.look y = .p (.v (.int k m))) (h0 : 0 ≤ m) (hm : m ≤ n) (hd : dOk C o.dst = true) :
    LOp C o σ ⟨.o (.asl ob g off m.toNat n), []⟩ (fun _ => false) :=
  lop_val hd fun τ a w G hl hm' h => by
    obtain ⟨b, c, h1, h2⟩ := look_of h ((hl x (by simp [ho, Op.operands])).trans hx)
    have e2 := val_of h ((hl y (by simp [ho, Op.operands])).trans hy)
    obtain ⟨d, hdd, hk⟩ := hT.undd
    have : d = .array n e := by cases d <;> simp [TK.of] at hk; rw [hk.1, hk.2]
    subst this
    refine ⟨.slice (some ⟨b, off, none⟩) m.toNat n, ?_, b, c, h1, rfl⟩
    simp [execOp, ho, h2, e2, Instr.sliceAt, Instr.sureAddr, run_underlying hdd, Instr.sliceBounds, run_sb (y := n) h0 hm, he.run_sizeOf, Addr.add]
namespace P6
theorem lopC {C : Ctx} {o : Oper} {σ : St} {e : Eff} {ro : Nat → Bool} (h : LOp C o σ e ro := by
    first
      | exact lop_wadd' rfl rfl rfl (by with_reducible (first | rfl | exact lit_nat _ | exact ofn_nat _)) (by with_reducible (first | rfl | exact lit_nat _ | exact ofn_nat _)) rfl rfl
            | exact lop_wmul' rfl rfl rfl (by with_reducible (first | rfl | exact lit_nat _ | exact ofn_nat _)) (by with_reducible (first | rfl | exact lit_nat _ | exact ofn_nat _)) rfl rfl
            | exact lop_wsub' rfl rfl rfl (by with_reducible (first | rfl | exact lit_nat _ | exact ofn_nat _)) (by with_reducible (first | rfl | exact lit_nat _ | exact ofn_nat _)) rfl rfl
            | exact lop_wquo' rfl rfl rfl (by with_reducible (first | rfl | exact lit_nat _ | exact ofn_nat _)) (by with_reducible (first | rfl | exact lit_nat _ | exact ofn_nat _)) (by decide) rfl rfl
            | exact lop_wrem' rfl rfl rfl (by with_reducible (first | rfl | exact lit_nat _ | exact ofn_nat _)) (by with_reducible (first | rfl | exact lit_nat _ | exact ofn_nat _)) (by decide) rfl
            | exact lop_wand' rfl rfl rfl (by with_reducible (first | rfl | exact lit_nat _ | exact ofn_nat _)) (by with_reducible (first | rfl | exact lit_nat _ | exact ofn_nat _)) rfl rfl
            | exact lop_wor' rfl rfl rfl (by with_reducible (first | rfl | exact lit_nat _ | exact ofn_nat _)) (by with_reducible (first | rfl | exact lit_nat _ | exact ofn_nat _)) rfl rfl
            | exact lop_wxor' rfl rfl rfl (by with_reducible (first | rfl | exact lit_nat _ | exact ofn_nat _)) (by with_reducible (first | rfl | exact lit_nat _ | exact ofn_nat _)) rfl rfl
            | exact lop_wnot' rfl rfl (by with_reducible (first | rfl | exact lit_nat _ | exact ofn_nat _)) rfl rfl
            | exact lop_wshr' rfl rfl (by with_reducible (first | rfl | exact lit_nat _ | exact ofn_nat _)) rfl (by first | decide | omega) (by first | decide | (simp only [IntKind.bits]; omega)) rfl
            | exact lop_wshl' rfl rfl (by with_reducible (first | rfl | exact lit_nat _ | exact ofn_nat _)) rfl (by first | decide | omega) (by first | decide | (simp only [IntKind.bits]; omega)) rfl rfl
            | (apply lop_wconv'; (focus rfl); (focus exact inferInstance); (focus exact inferInstance); (focus rfl); (focus exact (by with_reducible (first | rfl | exact lit_nat _ | exact ofn_nat _))); (focus rfl); (focus rfl))
      | (apply lop_sl_arh; (focus rfl); (focus exact inferInstance); (focus exact inferInstance); (focus rfl); (focus rfl); (focus decide); (focus decide); (focus rfl))
      | exact lop_len_asl rfl rfl rfl
      | exact lopQ
      | fail) : LOp C o σ e ro := h
section steps
variable {C : Ctx} {ops : Array Oper} {o : Oper} {rest : List Oper} {K : St → Prop} {σ : St} {e : Eff} {ro : Nat → Bool} {W : List (Nat × Nat)} {i : Nat}
theorem rnC {d : Nat} (hk : RunN C ops rest K (e.app (some d) σ)) (hg : Guard ops σ o true := by first | exact gd_n rfl rfl | exact gd_t rfl rfl rfl rfl | exact gd_t rfl rfl rfl (by assumption)) (hd : o.dst = some d := by rfl) (h : LOp C o σ e ro := by exact lopC) : RunN C ops (o :: rest) K σ := rn_any hg hd h hk
end steps
end P6
open P6
theorem shaPoint_w (b : List Nat) (ex : Bool) (h : b.length ≤ 500000000) : PCall Tryz.prog 259 [bytesN b ex] (.p (.k .u64 (pointF b : Int))) := by
  refine pcall_of Tryz.func259 rfl (fun w0 F S0 M0 => ?_)
  obtain ⟨S, hS⟩ : ∃ S, S = sum b := ⟨_, rfl⟩
  have hSl : S.length = 32 := by rw [hS]; exact sum_len b
  have hSo : okB S := by rw [hS]; exact sum_okB b
  haveI : PC Tryz.prog 19 [.p (.sl 1 [[bytesP b ex]] true)] True (.a (S.map bc)) := ⟨fun _ => by rw [hS]; exact sum1_c b ex true h⟩
  rw [show pointF b = pv S 8 by rw [hS]; rfl]
  clear hS
  repeat' (first | refine rnC ?_ | refine rnSB ?_ | refine rnG ?_ | refine rnU ?_ | ((fail_if_success (refine rnKn ?_)); refine rnP ?_ ?_ <;> (intro hq; try (have hq' := hq; simp only [hqs] at hq'))) | refine rkC ?_ | refine rkSB ?_ | refine rkF ?_ | refine rkU ?_ | ((fail_if_success (refine rkKn ?_)); refine rkP ?_ ?_ <;> (intro hq; try (have hq' := hq; simp only [hqs] at hq'))) | refine stp ?_ | refine ifT ?_ | refine ifF ?_ | (refine ifQ ?_ ?_ <;> (try (intro hn))) | (refine ifB ?_ ?_ <;> (intro hq; try (have hq' := hq; simp only [hqs] at hq'))))
  refine aws_loopS [3, 6, 12, 13, 14, 15, 16, 17, 18, 19, 20, 21] [] (fun (i : Nat) => [(12, .p (.i i)), (3, .p (.k .u64 (pv S i : Int)))]) (fun _ => []) (fun i => i ≤ 8) (fun i => 8 - i) 0 (Nat.zero_le _) (by exact knA) (by exact knA) ?_
  rintro i β γ hi
  by_cases hil : i < 8
  · have d1 : decide ((i : Int) < 8) = true := decide_eq_true (by omega)
    as_aux_lemma =>
      repeat' (first | refine rnC ?_ | refine rnSB ?_ | refine rnG ?_ | refine rnU ?_ | ((fail_if_success (refine rnKn ?_)); refine rnP ?_ ?_ <;> (intro hq; try (have hq' := hq; simp only [hqs] at hq'))) | refine rkC ?_ | refine rkSB ?_ | refine rkF ?_ | refine rkU ?_ | ((fail_if_success (refine rkKn ?_)); refine rkP ?_ ?_ <;> (intro hq; try (have hq' := hq; simp only [hqs] at hq'))) | refine stp ?_ | refine ifT ?_ | refine ifF ?_ | (refine ifQ ?_ ?_ <;> (try (intro hn))) | (refine ifB ?_ ?_ <;> (intro hq; try (have hq' := hq; simp only [hqs] at hq'))))
      refine ⟨i + 1, _, by omega, (by show i + 1 ≤ 8; omega), .refl, ?_⟩
      have e : pv S (i + 1) = (pv S i * 2 ^ (8 : Int).toNat) % md .u64 % md .u64 ||| S.getD (i : Int).toNat default % md .u64 % md .u64 := by
        rw [pv, Int.toNat_natCast]
        exact (byte_in (M := md .u64) (by have := pv_fit hSo (show i + 1 ≤ 8 by omega); rwa [pv] at this) (getD_ok hSo i)).symm
      try dsimp only
      rw [e]
      exact frA
  · have d1 : decide ((i : Int) < 8) = false := decide_eq_false (by omega)
    obtain rfl : i = 8 := by omega
    as_aux_lemma =>
      repeat' (first | refine rnC ?_ | refine rnSB ?_ | refine rnG ?_ | refine rnU ?_ | ((fail_if_success (refine rnKn ?_)); refine rnP ?_ ?_ <;> (intro hq; try (have hq' := hq; simp only [hqs] at hq'))) | refine rkC ?_ | refine rkSB ?_ | refine rkF ?_ | refine rkU ?_ | ((fail_if_success (refine rkKn ?_)); refine rkP ?_ ?_ <;> (intro hq; try (have hq' := hq; simp only [hqs] at hq'))) | refine stp ?_ | refine ifT ?_ | refine ifF ?_ | (refine ifQ ?_ ?_ <;> (try (intro hn))) | (refine ifB ?_ ?_ <;> (intro hq; try (have hq' := hq; simp only [hqs] at hq'))))
      exact rt1 rfl rfl finS_p rfl
end Go.Proofs.YtclcfjejpogdlaaGreat.Rg
namespace Go.Aw
open Go Go.RowKit
set_option linter.unusedVariables false
set_option linter.unusedSimpArgs false
theorem All2.set {α β : Type} {R : α → β → Prop} {l : List α} {m : List β} (h : All2 R l m) (i : Nat) {a : α} {b : β} (hab : R a b) : All2 R (l.set i a) (m.set i b) := by
  refine ⟨by simp [h.1], fun j x y hx hy => ?_⟩
  rw [List.getElem?_set] at hx hy
  by_cases hij : i = j
  · subst hij
    rw [if_pos rfl] at hx hy
    split at hx
    · rw [if_pos (by rw [← h.1]; assumption)] at hy
      cases hx; cases hy; exact hab
    · cases hx
  · rw [if_neg hij] at hx hy
    exact h.2 j x y hx hy
theorem ObjG.drew {mem : Nat → Nat × Option MO} {w : World} {G : Gh} (ho : ObjG mem w G) : ObjG mem w.drew G := {
  gens := ho.gens
  mem := fun x n mo hx => by
    obtain ⟨g2, m2, h1, h2, h3⟩ := ho.mem x n mo hx
    exact ⟨g2, m2, h1, h2, h3.mono (Mu.le.refl _) (fun b hb => ⟨hb, rfl⟩) fun _ _ => rfl⟩
  apart := ho.apart
  stab := ho.stab
  own := ho.own
  sbd := ho.sbd }
/-- what is known of an object, said in other words -/
theorem RelG.mem' {C : Ctx} {σ : St} {a : Act} {w : World} {G : Gh} (h : RelG C σ a w G) {o n : Nat} {mo mo' : MO} (hm : σ.mem o = (n, some mo)) (hh : ∀ μ X m fp, mo.holds μ X m fp → (μ o).length = n → (∀ g, n = g + 1 → (μ o)[g]? = some m) → mo'.holds μ X m fp) : ∃ G', RelG C (σ.put o (n, some mo')) a w G' := by
  have hlen : (G.μ o).length = n := by have := h.gens o; rw [hm] at this; exact this
  obtain ⟨g', m, hg, hmm, hx⟩ := h.mem o _ _ hm
  have eμ : (fun x => if x = o then G.μ o else G.μ x) = G.μ := by funext x; split <;> simp_all
  refine ⟨_, h.upd (o := o) (n' := n) (mo' := some mo') (μo := G.μ o) (fp' := G.φ o) (w' := w) (fun g x hx => hx) hlen rfl .same rfl (Nat.le_refl _) (fun _ _ _ => rfl) (fun b hb => ⟨.inl hb, (h.own o b hb).2⟩) (fun mo1 hmo => ?_)⟩
  obtain rfl := Option.some.inj hmo
  refine ⟨g', m, hg, hmm, ?_⟩
  rw [eμ]
  exact hh _ _ _ _ hx hlen fun g hgn => by obtain rfl : g' = g := by omega
                                           exact hmm
end Go.Aw
namespace Go.Aw
open Go Go.RowKit
set_option linter.unusedVariables false
set_option linter.unusedSimpArgs false
/-- an object whose content hangs on no block that stays -/
def MV (mo : MO) : Prop := ∀ μ X Y m fp, X.w = Y.w → mo.holds μ X m fp → mo.holds μ Y m fp
theorem MV.buf {ty es : Nat} {α : Type} {l : List α} {f : α → List Value} : MV (.buf ty es (l.map fun x => (f x).map PVal.v)) := by
  rintro μ X Y m fp hw ⟨h1, h2, h3, h4⟩
  refine ⟨h1, h2, h3, ?_⟩
  rcases h4 with h4 | ⟨b, arr, k1, k2, k3, k4, k5⟩
  · exact .inl h4
  · refine .inr ⟨b, arr, k1, k2, by rw [← hw]; exact k3, k4, fun i row hr => ⟨(k5 i row hr).1, fun j p hp => ?_⟩⟩
    obtain ⟨c, hc, hh⟩ := (k5 i row hr).2 j p hp
    refine ⟨c, hc, ?_⟩
    rw [List.getElem?_map] at hr
    cases hx : l[i]? with
    | none => rw [hx] at hr; cases hr
    | some x =>
      rw [hx] at hr; simp at hr; subst hr
      rw [List.getElem?_map] at hp
      cases hy : (f x)[j]? with
      | none => rw [hy] at hp; cases hp
      | some y => rw [hy] at hp; simp at hp; subst hp; exact hh
theorem MO.holds.fp {μ : Mu} {X : Wd} {ty : TypeId} {cs : List AC} {m : Option Nat × Nat} {fp : List Nat} (h : (MO.box ty cs).holds μ X m fp) : ∃ b, m.1 = some b ∧ fp = [b] := by
  obtain ⟨b, arr, h1, h2, _⟩ := h; exact ⟨b, h1, h2⟩
end Go.Aw
namespace Go.Aw
open Go Go.RowKit
set_option linter.unusedVariables false
set_option linter.unusedSimpArgs false
section ops
variable {C : Ctx} {o : Oper} {σ : St}
/-- a string's length -/
theorem lop_len_sb {T : TypeId} {x : Operand} {sz by_ : Nat} {b : List Nat} (ho : o.op = .call ⟨.builtin .len, #[x], #[T]⟩) (hT : TI C.P T .string sz by_) (hx : σ.look x = .p (.v (.string (strOf b)))) (hd : dOk C o.dst = true) :
    LOp C o σ ⟨.p (.i b.length), []⟩ (fun _ => false) := by
  have := lop_len_str (hT := hT) ho hx hd
  rwa [strOf_size] at this
/-- a string's byte -/
theorem lop_ix_sb {T : TypeId} {x ix : Operand} {sz by_ : Nat} {b : List Nat} {k : IntKind} {i : Int} (ho : o.op = .index T x ix) (hT : TI C.P T .string sz by_) (hx : σ.look x = .p (.v (.string (strOf b)))) (hb : okB b) (hi : σ.look ix = .p (.v (.int k i))) (h0 : 0 ≤ i) (h1 : i < b.length) (hd : dOk C o.dst = true) :
    LOp C o σ ⟨.p (.k .u8 (b.getD i.toNat default : Nat)), []⟩ (fun _ => false) :=
  lop_val hd fun τ a w G hl' hm' h => by
    have e1 := val_of h ((hl' x (by simp [ho, Op.operands])).trans hx)
    have e2 := val_of h ((hl' ix (by simp [ho, Op.operands])).trans hi)
    obtain ⟨d, hdd, hkk⟩ := hT.undd
    have : d = .string := by cases d <;> simp [TK.of] at hkk; rfl
    subst this
    have hlt : i.toNat < b.length := by omega
    have hbd : 0 ≤ i ∧ i < ((strOf b).size : Int) := by rw [strOf_size]; exact ⟨h0, h1⟩
    have hlt2 : i.toNat < (strOf b).size := by rw [strOf_size]; exact hlt
    have hg : (strOf b)[i.toNat] = UInt8.ofNat b[i.toNat] := by
      show ((b.map UInt8.ofNat).toArray)[i.toNat]'(by simpa using hlt) = _
      simp
    have hby : (((strOf b)[i.toNat]).toNat : Int) = ((b.getD i.toNat default : Nat) : Int) := by
      rw [hg, List.getD_eq_getElem?_getD, List.getElem?_eq_getElem hlt]
      have := hb b[i.toNat] (List.getElem_mem _)
      simp; omega
    refine ⟨.int .u8 (((strOf b)[i.toNat]).toNat : Int), ?_, by rw [hby], rfl⟩
    simp [execOp, ho, e1, e2, Instr.index, asIntOf, run_underlying hdd, h0, hlt2]
end ops
end Go.Aw
