/- carts: values, one behind the other // carts: entries collected, and in order // carts: entries in order -/
import Derived.Test.YtebjmleheiefdaaGreatCa1
import Derived.Test.YtebjmleheiefdaaGreatKj
import Derived.Test.YtebjmleheiefdaaGreatCa3
namespace Go.Proofs.YtebjmleheiefdaaGreat.Ca
open Go Go.RowKit Go.Aw Go.Aw.Cart
set_option linter.unusedVariables false
set_option linter.unusedSimpArgs false
set_option maxRecDepth 8000
set_option maxHeartbeats 4000000

theorem valuesE_w (l : List Ent) (ex : Bool) : PCall Tryz.prog 98 [.p (.sl 4 (l.map eR) ex)] (.p (.fnv 136 [.bx [.sl 4 (l.map eR) ex] 0])) := by
  refine pcall_of Tryz.func98 rfl (fun w0 F S0 M0 => ?_)
  repeat' (first
      | refine rnJ ?_
      | refine rnSB ?_
      | refine rnG ?_
      | refine rnU ?_
      | ((fail_if_success (refine rnKn ?_)); refine rnP ?_ ?_ <;> (intro hq; try (have hq' := hq; simp only [hqs] at hq')))
      | refine rkJ ?_
      | refine rkSB ?_
      | refine rkF ?_
      | refine rkU ?_
      | ((fail_if_success (refine rkKn ?_)); refine rkP ?_ ?_ <;> (intro hq; try (have hq' := hq; simp only [hqs] at hq')))
      | refine stp ?_
      | refine aws_draws [] mixed (by kernel_rfl) ?_
      | refine ifT ?_
      | refine ifF ?_
      | (refine ifQ ?_ ?_ <;> (try (intro hn)))
      | (refine ifB ?_ ?_ <;> (intro hq; try (have hq' := hq; simp only [hqs] at hq'))))
  exact rt1 rfl rfl finS_p rfl
instance {l : List Ent} {ex : Bool} : PC Tryz.prog 98 [.p (.sl 4 (l.map eR) ex)] True (.p (.fnv 136 [.bx [.sl 4 (l.map eR) ex] 0])) := ⟨fun _ => valuesE_w l ex⟩
theorem iterE_w (l : List Ent) (ex : Bool) (h : l.length ≤ 1000000000) : ICall Tryz.prog 136 [.bx [.sl 4 (l.map eR) ex] 0] (l.map eV) := by
  refine icall_of Tryz.func136 rfl (fun w0 F S0 M0 I yv hone hY => ?_)
  simp only [List.length_map]
  repeat' (first
      | refine rnJ ?_
      | refine rnSB ?_
      | refine rnG ?_
      | refine rnU ?_
      | ((fail_if_success (refine rnKn ?_)); refine rnP ?_ ?_ <;> (intro hq; try (have hq' := hq; simp only [hqs] at hq')))
      | refine rkJ ?_
      | refine rkSB ?_
      | refine rkF ?_
      | refine rkU ?_
      | ((fail_if_success (refine rkKn ?_)); refine rkP ?_ ?_ <;> (intro hq; try (have hq' := hq; simp only [hqs] at hq')))
      | refine stp ?_
      | refine aws_draws [] mixed (by kernel_rfl) ?_
      | refine ifT ?_
      | refine ifF ?_
      | (refine ifQ ?_ ?_ <;> (try (intro hn)))
      | (refine ifB ?_ ?_ <;> (intro hq; try (have hq' := hq; simp only [hqs] at hq'))))
  refine aws_loopS [4, 7, 8, 9, 10, 11, 12, 13, 14, 15] [1000, 4] (fun (x : Nat × Option MO) => [(7, .p (.i x.1))]) (fun x => [(1000, (1, some (.abs (I x.1)))), (4, (x.1, x.2))])
    (fun x => x.1 ≤ l.length) (fun x => l.length - x.1) (0, none) (Nat.zero_le _) (by exact knA) (by exact knA) ?_
  rintro ⟨i, c4⟩ β γ hi
  simp only at hi
  dsimp only
  by_cases hil : i < l.length
  · have hd : decide ((i : Int) < (l.length : Int)) = true := decide_eq_true (by omega)
    have hy := hY i (eV (l.getD (i : Int).toNat default)) (by rw [Int.toNat_natCast, List.getElem?_map, List.getD_eq_getElem?_getD, List.getElem?_eq_getElem hil]; rfl)
    repeat' (first
        | refine rnJ ?_
        | refine rnSB ?_
        | refine rnG ?_
        | refine rnU ?_
        | ((fail_if_success (refine rnKn ?_)); refine rnP ?_ ?_ <;> (intro hq; try (have hq' := hq; simp only [hqs] at hq')))
        | refine rkJ ?_
        | refine rkSB ?_
        | refine rkF ?_
        | refine rkU ?_
        | ((fail_if_success (refine rkKn ?_)); refine rkP ?_ ?_ <;> (intro hq; try (have hq' := hq; simp only [hqs] at hq')))
        | refine stp ?_
        | refine aws_draws [] mixed (by kernel_rfl) ?_
        | refine ifT ?_
        | refine ifF ?_
        | (refine ifQ ?_ ?_ <;> (try (intro hn)))
        | (refine ifB ?_ ?_ <;> (intro hq; try (have hq' := hq; simp only [hqs] at hq'))))
    exact ⟨(i + 1, some (.box 119 (eL (l.getD (i : Int).toNat default)))), _, by dsimp only; omega, by dsimp only; omega, .refl, by exact frA⟩
  · have hd : decide ((i : Int) < (l.length : Int)) = false := decide_eq_false (by omega)
    obtain rfl : i = l.length := by omega
    repeat' (first
        | refine rnJ ?_
        | refine rnSB ?_
        | refine rnG ?_
        | refine rnU ?_
        | ((fail_if_success (refine rnKn ?_)); refine rnP ?_ ?_ <;> (intro hq; try (have hq' := hq; simp only [hqs] at hq')))
        | refine rkJ ?_
        | refine rkSB ?_
        | refine rkF ?_
        | refine rkU ?_
        | ((fail_if_success (refine rkKn ?_)); refine rkP ?_ ?_ <;> (intro hq; try (have hq' := hq; simp only [hqs] at hq')))
        | refine stp ?_
        | refine aws_draws [] mixed (by kernel_rfl) ?_
        | refine ifT ?_
        | refine ifF ?_
        | (refine ifQ ?_ ?_ <;> (try (intro hn)))
        | (refine ifB ?_ ?_ <;> (intro hq; try (have hq' := hq; simp only [hqs] at hq'))))
    show RetO _ _ _ _ _ .normal _
    exact RetO.mk (res0 rfl rfl) ⟨.abs, trivial⟩

theorem valuesD_w (l : List Dot) (ex : Bool) : PCall Tryz.prog 143 [.p (.sl 2 (l.map dR) ex)] (.p (.fnv 160 [.bx [.sl 2 (l.map dR) ex] 0])) := by
  refine pcall_of Tryz.func143 rfl (fun w0 F S0 M0 => ?_)
  repeat' (first
      | refine rnJ ?_
      | refine rnSB ?_
      | refine rnG ?_
      | refine rnU ?_
      | ((fail_if_success (refine rnKn ?_)); refine rnP ?_ ?_ <;> (intro hq; try (have hq' := hq; simp only [hqs] at hq')))
      | refine rkJ ?_
      | refine rkSB ?_
      | refine rkF ?_
      | refine rkU ?_
      | ((fail_if_success (refine rkKn ?_)); refine rkP ?_ ?_ <;> (intro hq; try (have hq' := hq; simp only [hqs] at hq')))
      | refine stp ?_
      | refine aws_draws [] mixed (by kernel_rfl) ?_
      | refine ifT ?_
      | refine ifF ?_
      | (refine ifQ ?_ ?_ <;> (try (intro hn)))
      | (refine ifB ?_ ?_ <;> (intro hq; try (have hq' := hq; simp only [hqs] at hq'))))
  exact rt1 rfl rfl finS_p rfl
instance {l : List Dot} {ex : Bool} : PC Tryz.prog 143 [.p (.sl 2 (l.map dR) ex)] True (.p (.fnv 160 [.bx [.sl 2 (l.map dR) ex] 0])) := ⟨fun _ => valuesD_w l ex⟩
theorem iterD_w (l : List Dot) (ex : Bool) (h : l.length ≤ 1000000000) : ICall Tryz.prog 160 [.bx [.sl 2 (l.map dR) ex] 0] (l.map dV) := by
  refine icall_of Tryz.func160 rfl (fun w0 F S0 M0 I yv hone hY => ?_)
  simp only [List.length_map]
  repeat' (first
      | refine rnJ ?_
      | refine rnSB ?_
      | refine rnG ?_
      | refine rnU ?_
      | ((fail_if_success (refine rnKn ?_)); refine rnP ?_ ?_ <;> (intro hq; try (have hq' := hq; simp only [hqs] at hq')))
      | refine rkJ ?_
      | refine rkSB ?_
      | refine rkF ?_
      | refine rkU ?_
      | ((fail_if_success (refine rkKn ?_)); refine rkP ?_ ?_ <;> (intro hq; try (have hq' := hq; simp only [hqs] at hq')))
      | refine stp ?_
      | refine aws_draws [] mixed (by kernel_rfl) ?_
      | refine ifT ?_
      | refine ifF ?_
      | (refine ifQ ?_ ?_ <;> (try (intro hn)))
      | (refine ifB ?_ ?_ <;> (intro hq; try (have hq' := hq; simp only [hqs] at hq'))))
  refine aws_loopS [4, 7, 8, 9, 10, 11, 12, 13, 14, 15] [1000, 4] (fun (x : Nat × Option MO) => [(7, .p (.i x.1))]) (fun x => [(1000, (1, some (.abs (I x.1)))), (4, (x.1, x.2))])
    (fun x => x.1 ≤ l.length) (fun x => l.length - x.1) (0, none) (Nat.zero_le _) (by exact knA) (by exact knA) ?_
  rintro ⟨i, c4⟩ β γ hi
  simp only at hi
  dsimp only
  by_cases hil : i < l.length
  · have hd : decide ((i : Int) < (l.length : Int)) = true := decide_eq_true (by omega)
    have hy := hY i (dV (l.getD (i : Int).toNat default)) (by rw [Int.toNat_natCast, List.getElem?_map, List.getD_eq_getElem?_getD, List.getElem?_eq_getElem hil]; rfl)
    repeat' (first
        | refine rnJ ?_
        | refine rnSB ?_
        | refine rnG ?_
        | refine rnU ?_
        | ((fail_if_success (refine rnKn ?_)); refine rnP ?_ ?_ <;> (intro hq; try (have hq' := hq; simp only [hqs] at hq')))
        | refine rkJ ?_
        | refine rkSB ?_
        | refine rkF ?_
        | refine rkU ?_
        | ((fail_if_success (refine rkKn ?_)); refine rkP ?_ ?_ <;> (intro hq; try (have hq' := hq; simp only [hqs] at hq')))
        | refine stp ?_
        | refine aws_draws [] mixed (by kernel_rfl) ?_
        | refine ifT ?_
        | refine ifF ?_
        | (refine ifQ ?_ ?_ <;> (try (intro hn)))
        | (refine ifB ?_ ?_ <;> (intro hq; try (have hq' := hq; simp only [hqs] at hq'))))
    exact ⟨(i + 1, some (.box 74 (dL (l.getD (i : Int).toNat default)))), _, by dsimp only; omega, by dsimp only; omega, .refl, by exact frA⟩
  · have hd : decide ((i : Int) < (l.length : Int)) = false := decide_eq_false (by omega)
    obtain rfl : i = l.length := by omega
    repeat' (first
        | refine rnJ ?_
        | refine rnSB ?_
        | refine rnG ?_
        | refine rnU ?_
        | ((fail_if_success (refine rnKn ?_)); refine rnP ?_ ?_ <;> (intro hq; try (have hq' := hq; simp only [hqs] at hq')))
        | refine rkJ ?_
        | refine rkSB ?_
        | refine rkF ?_
        | refine rkU ?_
        | ((fail_if_success (refine rkKn ?_)); refine rkP ?_ ?_ <;> (intro hq; try (have hq' := hq; simp only [hqs] at hq')))
        | refine stp ?_
        | refine aws_draws [] mixed (by kernel_rfl) ?_
        | refine ifT ?_
        | refine ifF ?_
        | (refine ifQ ?_ ?_ <;> (try (intro hn)))
        | (refine ifB ?_ ?_ <;> (intro hq; try (have hq' := hq; simp only [hqs] at hq'))))
    show RetO _ _ _ _ _ .normal _
    exact RetO.mk (res0 rfl rfl) ⟨.abs, trivial⟩
end Go.Proofs.YtebjmleheiefdaaGreat.Ca
namespace Go.Proofs.YtebjmleheiefdaaGreat.Ca
open Go Go.RowKit Go.Aw Go.Aw.Cart
set_option linter.unusedVariables false
set_option linter.unusedSimpArgs false
set_option maxRecDepth 8000
set_option maxHeartbeats 4000000
theorem lop_bst4 {C : Ctx} {o : Oper} {σ : St} {T e : TypeId} {x0 : Operand} {sz by_ es be : Nat} {ke : TK} {z : List Value} {p0 p1 p2 p3 : PVal} (ho : o.op = .buildSlice T 1 #[(0, x0)]) (hT : TI C.P T (.slice e) sz by_) (he : TI C.P e ke es be) (hz : TZ C.P e z) (h0 : σ.look x0 = .a [.p p0, .p p1, .p p2, .p p3]) (hes : es = 4) (hd : dOk C o.dst = true) :
    LOp C o σ ⟨.p (.sl es [[p0, p1, p2, p3]] true), []⟩ (fun _ => false) := by
  subst hes
  exact lop_buildSlice (ps := [(0, [p0, p1, p2, p3])]) ho (.cons ⟨rfl, by simp, _, h0, by simp [SV.cells]⟩ .nil) rfl (by omega) (by omega) hd
theorem Agr.put' {σ τ : St} {W M : List Nat} {o : Nat} {m : Nat × Option MO} (h : Agr σ W (o :: M) τ) : Agr (σ.put o m) W M (τ.put o m) := ⟨h.env, fun t ht => by
  by_cases e : t = o
  · subst e; simp [St.put]
  · have hb : Nat.beq t o = false := Bool.eq_false_iff.2 (fun k => e (Nat.eq_of_beq_eq_true k))
    have := h.mem t (by simp only [memb, hb, ht, Bool.or_self])
    simp [St.put, e, this]⟩
namespace C5
theorem lopC {C : Ctx} {o : Oper} {σ : St} {e : Eff} {ro : Nat → Bool} (h : LOp C o σ e ro := by
    first
      | (apply lop_bst4; (focus rfl); (focus exact inferInstance); (focus exact inferInstance); (focus exact inferInstance); (focus rfl); (focus rfl); (focus rfl))
      | exact lopJ
      | fail) : LOp C o σ e ro := h
section steps
variable {C : Ctx} {ops : Array Oper} {o : Oper} {rest : List Oper} {K : St → Prop} {σ : St} {e : Eff} {ro : Nat → Bool} {W : List (Nat × Nat)} {i : Nat}
theorem rnC {d : Nat} (hk : RunN C ops rest K (e.app (some d) σ)) (hg : Guard ops σ o true := by first | exact gd_n rfl rfl | exact gd_t rfl rfl rfl rfl | exact gd_t rfl rfl rfl (by assumption)) (hd : o.dst = some d := by rfl) (h : LOp C o σ e ro := by exact lopC) : RunN C ops (o :: rest) K σ := rn_any hg hd h hk
end steps
end C5
open C5
theorem take_e {l : List Ent} {j : Nat} (h : j < l.length) : l.take (j + 1) = l.take j ++ [l.getD j default] := by
  rw [List.take_succ_eq_append_getElem h, List.getD_eq_getElem?_getD, List.getElem?_eq_getElem h]; rfl
/-- appended to nothing, out of whatever yields these -/
theorem appendE_o (f : FuncId) (caps : List PVal) (hf : FnT Tryz.prog f) (l : List Ent) (h : l.length ≤ 1000000000) (hI : ICall Tryz.prog f caps (l.map eV)) : OCall Tryz.prog 58 [.p (.v (.slice none 0 0)), .p (.fnv f caps)] (fun _ => (0, none)) (.o (.osl 900 l.length 4 0 l.length)) (memL [(900, (l.length + 1, some (.buf 119 4 (l.map eR))))]) := by
  refine ocall_ofF 900 Tryz.func58 rfl (fun w0 F S0 M0 => ?_)
  refine aws_says (says_nil (t := 0) (o := 900) (ty := 119) (es := 4) rfl rfl (by decide)) ?_
  repeat' (first
      | refine rnJ ?_
      | refine rnSB ?_
      | refine rnG ?_
      | refine rnU ?_
      | ((fail_if_success (refine rnKn ?_)); refine rnP ?_ ?_ <;> (intro hq; try (have hq' := hq; simp only [hqs] at hq')))
      | refine rkJ ?_
      | refine rkSB ?_
      | refine rkF ?_
      | refine rkU ?_
      | ((fail_if_success (refine rkKn ?_)); refine rkP ?_ ?_ <;> (intro hq; try (have hq' := hq; simp only [hqs] at hq')))
      | refine stp ?_
      | refine ifT ?_
      | refine ifF ?_
      | (refine ifQ ?_ ?_ <;> (try (intro hn)))
      | (refine ifB ?_ ?_ <;> (intro hq; try (have hq' := hq; simp only [hqs] at hq'))))
  refine aws_block ?_
  refine aws_range (ι := Option MO × Nat × List Ent) [5, 7, 8, 9, 10, 11] [2, 5, 900] (fun x => [(2, (1, some (.box 60 [.osl 900 x.2.1 4 0 x.2.2.length]))), (5, (x.2.1, x.1)), (900, (x.2.1 + 1, some (.buf 119 4 (x.2.2.map eR))))])
    (fun j x => x.2.2 = l.take j ∧ x.2.1 = j ∧ j ≤ l.length) (none, 0, []) rfl hf hI rfl ?_ rfl rfl (fun i => rfl) rfl ⟨by simp, rfl, Nat.zero_le _⟩ (by exact knA) ?_ ?_
  · intro x hx
    simp only [List.mem_map] at hx
    obtain ⟨e, _, rfl⟩ := hx
    exact inferInstance
  · rintro j x hjx ⟨c5, g, m⟩ γ w0 F S0 M0 lp R R' ⟨hm, hg, hj⟩
    simp only at hm hg
    have hjn : j < l.length := by
      by_cases hlt : j < l.length
      · exact hlt
      · rw [List.getElem?_map, List.getElem?_eq_none (by omega)] at hjx; cases hjx
    obtain rfl : x = eV (l.getD j default) := by
      rw [List.getElem?_map, List.getElem?_eq_getElem hjn] at hjx
      have e := Option.some.inj hjx
      rw [List.getD_eq_getElem?_getD, List.getElem?_eq_getElem hjn, ← e]; rfl
    have hml : m.length ≤ 1000000000 := by rw [hm, List.length_take]; omega
    dsimp only
    subst hg
    generalize hed : l.getD g default = ed
    repeat' (first
        | refine rnJ ?_
        | refine rnSB ?_
        | refine rnG ?_
        | refine rnU ?_
        | ((fail_if_success (refine rnKn ?_)); refine rnP ?_ ?_ <;> (intro hq; try (have hq' := hq; simp only [hqs] at hq')))
        | refine rkJ ?_
        | refine rkSB ?_
        | refine rkF ?_
        | refine rkU ?_
        | ((fail_if_success (refine rkKn ?_)); refine rkP ?_ ?_ <;> (intro hq; try (have hq' := hq; simp only [hqs] at hq')))
        | refine stp ?_
        | refine ifT ?_
        | refine ifF ?_
        | (refine ifQ ?_ ?_ <;> (try (intro hn)))
        | (refine ifB ?_ ?_ <;> (intro hq; try (have hq' := hq; simp only [hqs] at hq'))))
    refine ⟨rfl, rfl, ?_⟩
    repeat' (first
        | refine rnC ?_
        | refine rnSB ?_
        | refine rnG ?_
        | refine rnU ?_
        | ((fail_if_success (refine rnKn ?_)); refine rnP ?_ ?_ <;> (intro hq; try (have hq' := hq; simp only [hqs] at hq')))
        | refine rkC ?_
        | refine rkSB ?_
        | refine rkF ?_
        | refine rkU ?_
        | ((fail_if_success (refine rkKn ?_)); refine rkP ?_ ?_ <;> (intro hq; try (have hq' := hq; simp only [hqs] at hq')))
        | refine stp ?_
        | refine ifT ?_
        | refine ifF ?_
        | (refine ifQ ?_ ?_ <;> (try (intro hn)))
        | (refine ifB ?_ ?_ <;> (intro hq; try (have hq' := hq; simp only [hqs] at hq'))))
    refine ⟨rfl, (some (.box 119 (eL ed)), g + 1, m ++ [ed]), _, ⟨by dsimp only; rw [hm, take_e hjn, hed], rfl, by omega⟩, .refl, Fr'.mk ?_ (by exact knA) (by exact knA)⟩
    repeat' (first | exact Agr.refl | refine Agr.appg rfl rfl ?_ | refine Agr.appgn rfl ?_ | refine Agr.set rfl ?_ | refine Agr.put rfl ?_ | refine Agr.put' ?_ | refine Agr.fr ?_ (memb_sub rfl) (memb_sub rfl) rfl rfl)
  · rintro ⟨c5, g, m⟩ γ ⟨hm, hg, hj⟩
    simp only [List.length_map] at hm hg
    subst hg
    obtain rfl : m = l := by rw [hm, List.take_length]
    dsimp only
    repeat' (first
        | refine rnJ ?_
        | refine rnSB ?_
        | refine rnG ?_
        | refine rnU ?_
        | ((fail_if_success (refine rnKn ?_)); refine rnP ?_ ?_ <;> (intro hq; try (have hq' := hq; simp only [hqs] at hq')))
        | refine rkJ ?_
        | refine rkSB ?_
        | refine rkF ?_
        | refine rkU ?_
        | ((fail_if_success (refine rkKn ?_)); refine rkP ?_ ?_ <;> (intro hq; try (have hq' := hq; simp only [hqs] at hq')))
        | refine stp ?_
        | refine ifT ?_
        | refine ifF ?_
        | (refine ifQ ?_ ?_ <;> (try (intro hn)))
        | (refine ifB ?_ ?_ <;> (intro hq; try (have hq' := hq; simp only [hqs] at hq'))))
    exact RetO.mk (ot1 rfl rfl (.one (.kosl rfl)) rfl) ⟨.buf, trivial⟩
end Go.Proofs.YtebjmleheiefdaaGreat.Ca
namespace Go.Proofs.YtebjmleheiefdaaGreat.Ca
open Go Go.RowKit Go.Aw Go.Aw.Cart
set_option linter.unusedVariables false
set_option linter.unusedSimpArgs false
set_option maxRecDepth 8000
set_option maxHeartbeats 4000000
instance {l : List Ent} {ex : Bool} : IC Tryz.prog 136 [.bx [.sl 4 (l.map eR) ex] 0] (l.length ≤ 1000000000) (l.map eV) := ⟨iterE_w l ex⟩
instance {f : FuncId} {caps : List PVal} {l : List Ent} {pre : Prop} {c k : Nat} [hf : FnT Tryz.prog f] [hi : IC Tryz.prog f caps pre (l.map eV)] : OC Tryz.prog 58 [.p (.v (.slice none 0 0)), .p (.fnv f caps)] [] [(c, k)] (pre ∧ l.length ≤ 1000000000) (.o (.osl c (k + l.length) 4 0 l.length)) [(c, (k + (l.length + 1), some (.buf 119 4 (l.map eR))))] := ⟨fun h => (appendE_o f caps hf l h.2 (hi.call h.1)).fresh1 c k⟩
theorem collectE_o (f : FuncId) (caps : List PVal) (hf : FnT Tryz.prog f) (l : List Ent) (h : l.length ≤ 1000000000) (hI : ICall Tryz.prog f caps (l.map eV)) : OCall Tryz.prog 59 [.p (.fnv f caps)] (fun _ => (0, none)) (.o (.osl 4 (0 + l.length) 4 0 l.length)) (memL [(4, (0 + (l.length + 1), some (.buf 119 4 (l.map eR))))]) := by
  refine ocall_ofF 4 Tryz.func59 rfl (fun w0 F S0 M0 => ?_)
  haveI : IC Tryz.prog f caps True (l.map eV) := ⟨fun _ => hI⟩
  repeat' (first
      | refine rnJ ?_
      | refine rnSB ?_
      | refine rnG ?_
      | refine rnU ?_
      | ((fail_if_success (refine rnKn ?_)); refine rnP ?_ ?_ <;> (intro hq; try (have hq' := hq; simp only [hqs] at hq')))
      | refine rkJ ?_
      | refine rkSB ?_
      | refine rkF ?_
      | refine rkU ?_
      | ((fail_if_success (refine rkKn ?_)); refine rkP ?_ ?_ <;> (intro hq; try (have hq' := hq; simp only [hqs] at hq')))
      | refine stp ?_
      | refine ifT ?_
      | refine ifF ?_
      | (refine ifQ ?_ ?_ <;> (try (intro hn)))
      | (refine ifB ?_ ?_ <;> (intro hq; try (have hq' := hq; simp only [hqs] at hq'))))
  exact RetO.mk (ot1 rfl rfl (.one (.kosl rfl)) rfl) ⟨.buf, trivial⟩
instance {f : FuncId} {caps : List PVal} {l : List Ent} {pre : Prop} {c k : Nat} [hf : FnT Tryz.prog f] [hi : IC Tryz.prog f caps pre (l.map eV)] : OC Tryz.prog 59 [.p (.fnv f caps)] [] [(c, k)] (pre ∧ l.length ≤ 1000000000) (.o (.osl c (k + (0 + l.length)) 4 0 l.length)) [(c, (k + (0 + (l.length + 1)), some (.buf 119 4 (l.map eR))))] := ⟨fun h => (collectE_o f caps hf l h.2 (hi.call h.1)).fresh1 c k⟩
theorem sorted_o (f : FuncId) (caps : List PVal) (hf : FnT Tryz.prog f) (l : List Ent) (h : l.length ≤ 1000000000) (hI : ICall Tryz.prog f caps (l.map eV)) : PCall Tryz.prog 97 [.p (.fnv f caps), .p (.v (.func (.func 90) #[] #[]))] (.p (.sl 4 ((sortE l).map eR) false)) := by
  refine pcall_of Tryz.func97 rfl (fun w0 F S0 M0 => ?_)
  haveI : IC Tryz.prog f caps True (l.map eV) := ⟨fun _ => hI⟩
  repeat' (first
      | refine rnJ ?_
      | refine rnSB ?_
      | refine rnG ?_
      | refine rnU ?_
      | ((fail_if_success (refine rnKn ?_)); refine rnP ?_ ?_ <;> (intro hq; try (have hq' := hq; simp only [hqs] at hq')))
      | refine rkJ ?_
      | refine rkSB ?_
      | refine rkF ?_
      | refine rkU ?_
      | ((fail_if_success (refine rkKn ?_)); refine rkP ?_ ?_ <;> (intro hq; try (have hq' := hq; simp only [hqs] at hq')))
      | refine stp ?_
      | refine ifT ?_
      | refine ifF ?_
      | (refine ifQ ?_ ?_ <;> (try (intro hn)))
      | (refine ifB ?_ ?_ <;> (intro hq; try (have hq' := hq; simp only [hqs] at hq'))))
  exact rt1 rfl rfl (.one (finC_map rfl rfl (by omega) (sortE_len l).symm)) rfl
instance {f : FuncId} {caps : List PVal} {l : List Ent} {pre : Prop} [hf : FnT Tryz.prog f] [hi : IC Tryz.prog f caps pre (l.map eV)] : PC Tryz.prog 97 [.p (.fnv f caps), .p (.v (.func (.func 90) #[] #[]))] (pre ∧ l.length ≤ 1000000000) (.p (.sl 4 ((sortE l).map eR) false)) := ⟨fun h => sorted_o f caps hf l h.2 (hi.call h.1)⟩
theorem order_w (l : List Ent) (ex : Bool) (h : l.length ≤ 1000000000) : PCall Tryz.prog 62 [.p (.sl 4 (l.map eR) ex)] (.p (.sl 4 ((sortE l).map eR) false)) := by
  refine pcall_of Tryz.func62 rfl (fun w0 F S0 M0 => ?_)
  repeat' (first
      | refine rnJ ?_
      | refine rnSB ?_
      | refine rnG ?_
      | refine rnU ?_
      | ((fail_if_success (refine rnKn ?_)); refine rnP ?_ ?_ <;> (intro hq; try (have hq' := hq; simp only [hqs] at hq')))
      | refine rkJ ?_
      | refine rkSB ?_
      | refine rkF ?_
      | refine rkU ?_
      | ((fail_if_success (refine rkKn ?_)); refine rkP ?_ ?_ <;> (intro hq; try (have hq' := hq; simp only [hqs] at hq')))
      | refine stp ?_
      | refine ifT ?_
      | refine ifF ?_
      | (refine ifQ ?_ ?_ <;> (try (intro hn)))
      | (refine ifB ?_ ?_ <;> (intro hq; try (have hq' := hq; simp only [hqs] at hq'))))
  exact rt1 rfl rfl finS_p rfl
instance {l : List Ent} {ex : Bool} : PC Tryz.prog 62 [.p (.sl 4 (l.map eR) ex)] (l.length ≤ 1000000000) (.p (.sl 4 ((sortE l).map eR) false)) := ⟨order_w l ex⟩
end Go.Proofs.YtebjmleheiefdaaGreat.Ca
