/- Chapter 25 (draw): whatever is drawn -/
import Derived.Test.YtbhcdkhejgkhaaaDe
namespace Go.Proofs.Ytbhcdkhejgkhaaa.Dr
open Go Go.RowKit Go.Aw
set_option linter.unusedVariables false
set_option linter.unusedSimpArgs false
set_option maxRecDepth 8000
set_option maxHeartbeats 4000000

theorem lopZ {C : Ctx} {o : Oper} {σ : St} {e : Eff} {ro : Nat → Bool} (h : LOp C o σ e ro := by
    first
      | (apply lop_bzi; (focus rfl); (focus exact inferInstance); (focus exact inferInstance); (focus exact inferInstance); (focus rfl); (focus rfl); (focus rfl))
      | exact lopB
      | fail) : LOp C o σ e ro := h
section steps
variable {C : Ctx} {ops : Array Oper} {o : Oper} {rest : List Oper} {K : St → Prop} {σ : St} {e : Eff} {ro : Nat → Bool} {W : List (Nat × Nat)} {i : Nat}
theorem rnZ {d : Nat} (hk : RunN C ops rest K (e.app (some d) σ)) (hg : Guard ops σ o true := by first | exact gd_n rfl rfl | exact gd_t rfl rfl rfl rfl | exact gd_t rfl rfl rfl (by assumption)) (hd : o.dst = some d := by rfl) (h : LOp C o σ e ro := by exact lopZ) : RunN C ops (o :: rest) K σ := rn_any hg hd h hk
theorem rkZ {d : Nat} (hk : RunK C ops W (i + 1) rest K (e.app (some d) σ)) (hg : Guard ops σ o true := by first | exact gd_n rfl rfl | exact gd_t rfl rfl rfl rfl | exact gd_t rfl rfl rfl (by assumption)) (hd' : o.dst = some d := by rfl) (hd : dOk C o.dst = true := by rfl) (h : LOp C o σ e ro := by exact lopZ)
    (hro : ∀ x, ro x = true → okObj ops W i x = true := by first | exact fun _ => ro_none | exact ro_one rfl | exact ro_one (by kernel_rfl) | exact ro_kIn (by decide)) (hob : ∀ p ∈ e.obj, (i, p.1) ∈ W := by first | exact ob_none | exact ob_one (by decide) | decide) : RunK C ops W i (o :: rest) K σ := rk_wr hg hd' hd h hro hob hk
end steps
theorem getD_rows {α : Type} {ls : List (List α)} {P : List α → Prop} (h : ∀ l ∈ ls, P l) (h0 : P []) (i : Nat) : P (ls.getD i default) := by
  rw [List.getD_eq_getElem?_getD]
  cases hx : ls[i]? with
  | none => exact h0
  | some x => exact h x (List.mem_of_getElem? hx)
theorem from_at {ds : List Int} (h : ds.length ≤ 1000000000) (c d n nd : Nat) (hcd : c ≠ d) : OCAt Try.prog 35 [.o (.osl c n 1 0 ds.length)] [(c, (n + 1, some (obuf ds)))] [(d, nd)] (.o (.ptr d nd 0)) [(c, (n + 1, some (obuf ds))), (d, (nd + 1, some (srcB ds false)))] :=
  (from_o n ds h).lf (by decide) c d nd hcd
theorem spick_at {ds l : List Int} (h : ds.length ≤ 1000000000 ∧ l.length ≤ 9223372036854775807) (hd : u64ok ds) (c n : Nat) : OCAt Try.prog 37 [.o (.ptr c n 0), ints l false] [(c, (n + 1, some (srcB ds false)))] []
    (.tup [.one (.p (.i (spickR ds l).1)), .one (.p (.i (spickR ds l).2))]) [(c, (n + 1, some (srcB (spickL ds l) false)))] := (spick_w n ds l false false h hd).one c
theorem sources_c (ds : List Int) (ls : List (List Int)) (ex ey : Bool) (hdl : ds.length ≤ 9223372036854775807) (hll : ls.length ≤ 9223372036854775807) (hd : u64ok ds) (hl : ∀ l ∈ ls, l.length ≤ 9223372036854775807) :
    PCall Try.prog 7 [u64s ds ex, .p (.sl 1 (ls.map fun l => [PVal.sl 1 (l.map fun n => [PVal.k .i64 n]) false]) ey)] (.p (.b true)) := by
  refine pcall_of Try.func7 rfl (fun w0 F S0 M0 => ?_)
  by_cases h1 : 60 < ds.length
  · have c1 : decide (60 < (ds.length : Int)) = true := decide_eq_true (by omega)
    repeat' (first
        | refine rnZ ?_
        | refine rnSB ?_
        | refine rnG ?_
        | refine rnU ?_
        | ((fail_if_success (refine rnKn ?_)); refine rnP ?_ ?_ <;> (intro hq; try (have hq' := hq; simp only [hqs] at hq')))
        | refine rkZ ?_
        | refine rkSB ?_
        | refine rkF ?_
        | refine rkU ?_
        | ((fail_if_success (refine rkKn ?_)); refine rkP ?_ ?_ <;> (intro hq; try (have hq' := hq; simp only [hqs] at hq')))
        | refine stp ?_
        | refine ifT ?_
        | refine ifF ?_
        | (refine ifQ ?_ ?_ <;> (try (intro hn)))
        | (refine ifB ?_ ?_ <;> (intro hq; try (have hq' := hq; simp only [hqs] at hq'))))
    exact rt1 rfl rfl finS_p rfl
  · have c1 : decide (60 < (ds.length : Int)) = false := decide_eq_false (by omega)
    by_cases h2 : 60 < ls.length
    · have c2 : decide (60 < (ls.length : Int)) = true := decide_eq_true (by omega)
      repeat' (first
          | refine rnZ ?_
          | refine rnSB ?_
          | refine rnG ?_
          | refine rnU ?_
          | ((fail_if_success (refine rnKn ?_)); refine rnP ?_ ?_ <;> (intro hq; try (have hq' := hq; simp only [hqs] at hq')))
          | refine rkZ ?_
          | refine rkSB ?_
          | refine rkF ?_
          | refine rkU ?_
          | ((fail_if_success (refine rkKn ?_)); refine rkP ?_ ?_ <;> (intro hq; try (have hq' := hq; simp only [hqs] at hq')))
          | refine stp ?_
          | refine ifT ?_
          | refine ifF ?_
          | (refine ifQ ?_ ?_ <;> (try (intro hn)))
          | (refine ifB ?_ ?_ <;> (intro hq; try (have hq' := hq; simp only [hqs] at hq'))))
      exact rt1 rfl rfl finS_p rfl
    · have c2 : decide (60 < (ls.length : Int)) = false := decide_eq_false (by omega)
      have hN : ([] ++ ds).length = ds.length := rfl
      repeat' (first
          | refine rnZ ?_
          | refine rnSB ?_
          | refine rnG ?_
          | refine rnU ?_
          | ((fail_if_success (refine rnKn ?_)); refine rnP ?_ ?_ <;> (intro hq; try (have hq' := hq; simp only [hqs] at hq')))
          | refine rkZ ?_
          | refine rkSB ?_
          | refine rkF ?_
          | refine rkU ?_
          | ((fail_if_success (refine rkKn ?_)); refine rkP ?_ ?_ <;> (intro hq; try (have hq' := hq; simp only [hqs] at hq')))
          | refine stp ?_
          | refine ifT ?_
          | refine ifF ?_
          | (refine ifQ ?_ ?_ <;> (try (intro hn)))
          | (refine ifB ?_ ?_ <;> (intro hq; try (have hq' := hq; simp only [hqs] at hq'))))
      refine rn_any (gd_n rfl rfl) rfl (lop_ocall rfl inferInstance (.cons rfl .nil) (from_at (ds := ds) (by omega) 27 31 1 0 (by decide)) (fun p hp => by simp at hp; subst hp; rfl) (fun p hp => by simp at hp; subst hp; rfl) (fun p hp => by simp at hp; subst hp; rfl) (fun p hp => by simp at hp; subst hp; rfl) rfl) ?_
      repeat' (first
          | refine rnZ ?_
          | refine rnSB ?_
          | refine rnG ?_
          | refine rnU ?_
          | ((fail_if_success (refine rnKn ?_)); refine rnP ?_ ?_ <;> (intro hq; try (have hq' := hq; simp only [hqs] at hq')))
          | refine rkZ ?_
          | refine rkSB ?_
          | refine rkF ?_
          | refine rkU ?_
          | ((fail_if_success (refine rkKn ?_)); refine rkP ?_ ?_ <;> (intro hq; try (have hq' := hq; simp only [hqs] at hq')))
          | refine stp ?_
          | refine ifT ?_
          | refine ifF ?_
          | (refine ifQ ?_ ?_ <;> (try (intro hn)))
          | (refine ifB ?_ ?_ <;> (intro hq; try (have hq' := hq; simp only [hqs] at hq'))))
      refine aws_loopS [7, 32, 33, 34, 35, 36, 37, 38, 39, 40] [27] (fun (x : Nat × List Int) => [(7, .p (.i x.1))]) (fun x => [(27, (2, some (obuf x.2)))])
        (fun x => x.1 ≤ ds.length ∧ x.2.length = ds.length) (fun x => ds.length - x.1) (0, ds) ⟨Nat.zero_le _, rfl⟩ (by exact knA) (by exact knA) ?_
      rintro ⟨i, L⟩ β γ ⟨hi, hL⟩
      simp only at hi hL
      dsimp only
      by_cases hid : i < ds.length
      · have c3 : decide ((i : Int) < (([] ++ ds).length : Int)) = true := decide_eq_true (by omega)
        repeat' (first
            | refine rnZ ?_
            | refine rnSB ?_
            | refine rnG ?_
            | refine rnU ?_
            | ((fail_if_success (refine rnKn ?_)); refine rnP ?_ ?_ <;> (intro hq; try (have hq' := hq; simp only [hqs] at hq')))
            | refine rkZ ?_
            | refine rkSB ?_
            | refine rkF ?_
            | refine rkU ?_
            | ((fail_if_success (refine rkKn ?_)); refine rkP ?_ ?_ <;> (intro hq; try (have hq' := hq; simp only [hqs] at hq')))
            | refine stp ?_
            | refine ifT ?_
            | refine ifF ?_
            | (refine ifQ ?_ ?_ <;> (try (intro hn)))
            | (refine ifB ?_ ?_ <;> (intro hq; try (have hq' := hq; simp only [hqs] at hq'))))
        refine ⟨(i + 1, L.set (i : Int).toNat 5), _, by dsimp only; omega, ⟨by dsimp only; omega, by dsimp only; rw [List.length_set]; exact hL⟩, .refl, by exact frA⟩
      · have c3 : decide ((i : Int) < (([] ++ ds).length : Int)) = false := decide_eq_false (by omega)
        repeat' (first
            | refine rnZ ?_
            | refine rnSB ?_
            | refine rnG ?_
            | refine rnU ?_
            | ((fail_if_success (refine rnKn ?_)); refine rnP ?_ ?_ <;> (intro hq; try (have hq' := hq; simp only [hqs] at hq')))
            | refine rkZ ?_
            | refine rkSB ?_
            | refine rkF ?_
            | refine rkU ?_
            | ((fail_if_success (refine rkKn ?_)); refine rkP ?_ ?_ <;> (intro hq; try (have hq' := hq; simp only [hqs] at hq')))
            | refine stp ?_
            | refine ifT ?_
            | refine ifF ?_
            | (refine ifQ ?_ ?_ <;> (try (intro hn)))
            | (refine ifB ?_ ?_ <;> (intro hq; try (have hq' := hq; simp only [hqs] at hq'))))
        refine aws_loopS [4, 8, 9, 10, 11, 41, 42, 43, 44, 45, 46, 47, 48, 49, 50, 51, 52, 53, 54, 55, 56, 57, 58, 59, 60, 61, 62, 63, 64, 65, 66, 67, 68, 69, 70, 71, 72, 73, 74, 75, 76, 77, 78, 79, 80, 81, 82, 83, 84, 85, 86, 87, 88, 89, 90, 91, 92, 93, 94, 95, 96, 97, 98, 99, 100, 101, 102, 103, 104, 105, 106, 107, 108] [31] (fun (x : Nat × Nat) => [(9, .p (.i x.1)), (8, .p (.i x.2))]) (fun x => [(31, (1, some (srcB (ds.drop x.2) false)))])
          (fun x => x.1 ≤ ls.length ∧ x.2 ≤ ds.length) (fun x => ls.length - x.1) (0, 0) ⟨Nat.zero_le _, Nat.zero_le _⟩ (by exact knA) (by exact knA) ?_
        rintro ⟨k, at'⟩ β' γ' ⟨hk, hat⟩
        simp only at hk hat
        dsimp only
        by_cases hkl : k < ls.length
        · have c4 : decide ((k : Int) < (ls.length : Int)) = true := decide_eq_true (by omega)
          have c5 : decide (((ds.drop at').length : Int) ≠ (ds.length : Int) - (at' : Int)) = false := decide_eq_false (by rw [List.length_drop]; omega)
          have hLl : (ls.getD (k : Int).toNat default).length ≤ 9223372036854775807 := getD_rows (P := fun l => l.length ≤ 9223372036854775807) hl (by simp) _
          have hdo : u64ok (ds.drop at') := fun x hx => hd x (List.mem_of_mem_drop hx)
          have hdr : (ds.drop at').length ≤ 1000000000 := by rw [List.length_drop]; omega
          have hsp := spick_at (ds := ds.drop at') (l := ls.getD (k : Int).toNat default) ⟨hdr, hLl⟩ hdo 31 0
          by_cases hL0 : (ls.getD (k : Int).toNat default).length = 0
          · have c6 : decide (((ls.getD (k : Int).toNat default).length : Int) = 0) = true := decide_eq_true (by omega)
            rw [spickR0 hL0, spickL0 hL0] at hsp
            haveI : OC Try.prog 37 [.o (.ptr 31 0 0), ints (ls.getD (k : Int).toNat default) false] [(31, (1, some (srcB (ds.drop at') false)))] [] True (.tup [.one (.p (.i 0)), .one (.p (.i 1))]) [(31, (1, some (srcB (ds.drop at') false)))] := ⟨fun _ => hsp⟩
            repeat' (first
                | refine rnZ ?_
                | refine rnSB ?_
                | refine rnG ?_
                | refine rnU ?_
                | ((fail_if_success (refine rnKn ?_)); refine rnP ?_ ?_ <;> (intro hq; try (have hq' := hq; simp only [hqs] at hq')))
                | refine rkZ ?_
                | refine rkSB ?_
                | refine rkF ?_
                | refine rkU ?_
                | ((fail_if_success (refine rkKn ?_)); refine rkP ?_ ?_ <;> (intro hq; try (have hq' := hq; simp only [hqs] at hq')))
                | refine stp ?_
                | refine ifT ?_
                | refine ifF ?_
                | (refine ifQ ?_ ?_ <;> (try (intro hn)))
                | (refine ifB ?_ ?_ <;> (intro hq; try (have hq' := hq; simp only [hqs] at hq'))))
            exact ⟨(k + 1, at'), _, by dsimp only; omega, ⟨by dsimp only; omega, hat⟩, .refl, by exact frA⟩
          · have c6 : decide (((ls.getD (k : Int).toNat default).length : Int) = 0) = false := decide_eq_false (by omega)
            rw [spickR1 hL0, spickL1 hL0] at hsp
            by_cases hat' : at' = ds.length
            · have c7 : decide ((at' : Int) = (ds.length : Int)) = true := decide_eq_true (by omega)
              have e0 : ds.drop at' = [] := List.drop_of_length_le (by omega)
              haveI : OC Try.prog 37 [.o (.ptr 31 0 0), ints (ls.getD (k : Int).toNat default) false] [(31, (1, some (srcB (ds.drop at') false)))] [] True (.tup [.one (.p (.i 0)), .one (.p (.i 4))]) [(31, (1, some (srcB (ds.drop at') false)))] := ⟨fun _ => by
                rw [e0] at hsp ⊢; exact hsp⟩
              repeat' (first
                  | refine rnZ ?_
                  | refine rnSB ?_
                  | refine rnG ?_
                  | refine rnU ?_
                  | ((fail_if_success (refine rnKn ?_)); refine rnP ?_ ?_ <;> (intro hq; try (have hq' := hq; simp only [hqs] at hq')))
                  | refine rkZ ?_
                  | refine rkSB ?_
                  | refine rkF ?_
                  | refine rkU ?_
                  | ((fail_if_success (refine rkKn ?_)); refine rkP ?_ ?_ <;> (intro hq; try (have hq' := hq; simp only [hqs] at hq')))
                  | refine stp ?_
                  | refine ifT ?_
                  | refine ifF ?_
                  | (refine ifQ ?_ ?_ <;> (try (intro hn)))
                  | (refine ifB ?_ ?_ <;> (intro hq; try (have hq' := hq; simp only [hqs] at hq'))))
              exact ⟨(k + 1, at'), _, by dsimp only; omega, ⟨by dsimp only; omega, hat⟩, .refl, by exact frA⟩
            · have c7 : decide ((at' : Int) = (ds.length : Int)) = false := decide_eq_false (by omega)
              have e0 : ds.drop at' = ds.getD (at' : Int).toNat default :: ds.drop (at' + 1) := by rw [Int.toNat_natCast]; exact drop_cons_getD (by omega)
              have hd0 := hd.getD (at' : Int).toNat
              have hmod := mod_in (ds.getD (at' : Int).toNat default) (ls.getD (k : Int).toNat default).length
              have hV : pickR (ls.getD (k : Int).toNat default) (ds.getD (at' : Int).toNat default) = ((ls.getD (k : Int).toNat default).getD (ds.getD (at' : Int).toNat default % ((ls.getD (k : Int).toNat default).length : Int)).toNat default, 0) := by unfold pickR; rw [if_neg hL0]
              haveI : OC Try.prog 37 [.o (.ptr 31 0 0), ints (ls.getD (k : Int).toNat default) false] [(31, (1, some (srcB (ds.drop at') false)))] [] True
                  (.tup [.one (.p (.i ((ls.getD (k : Int).toNat default).getD (ds.getD (at' : Int).toNat default % ((ls.getD (k : Int).toNat default).length : Int)).toNat default))), .one (.p (.i 0))]) [(31, (1, some (srcB (ds.drop (at' + 1)) false)))] := ⟨fun _ => by
                rw [e0] at hsp ⊢
                simp only [hV, List.drop_succ_cons, List.drop_zero] at hsp
                exact hsp⟩
              have c8 : decide ((ls.getD (k : Int).toNat default).getD (ds.getD (at' : Int).toNat default % ((ls.getD (k : Int).toNat default).length : Int)).toNat default ≠ (ls.getD (k : Int).toNat default).getD (ds.getD (at' : Int).toNat default % ((ls.getD (k : Int).toNat default).length : Int)).toNat default) = false := decide_eq_false (by simp)
              repeat' (first
                  | refine rnZ ?_
                  | refine rnSB ?_
                  | refine rnG ?_
                  | refine rnU ?_
                  | ((fail_if_success (refine rnKn ?_)); refine rnP ?_ ?_ <;> (intro hq; try (have hq' := hq; simp only [hqs] at hq')))
                  | refine rkZ ?_
                  | refine rkSB ?_
                  | refine rkF ?_
                  | refine rkU ?_
                  | ((fail_if_success (refine rkKn ?_)); refine rkP ?_ ?_ <;> (intro hq; try (have hq' := hq; simp only [hqs] at hq')))
                  | refine stp ?_
                  | refine ifT ?_
                  | refine ifF ?_
                  | (refine ifQ ?_ ?_ <;> (try (intro hn)))
                  | (refine ifB ?_ ?_ <;> (intro hq; try (have hq' := hq; simp only [hqs] at hq'))))
              refine aws_draws [] mixed (by kernel_rfl) ?_
              repeat' (first
                  | refine rk_nil ?_
                  | refine rkZ ?_
                  | refine rkSB ?_
                  | refine rkF ?_
                  | refine rkU ?_
                  | ((fail_if_success (refine rkKn ?_)); refine rkP ?_ ?_ <;> (intro hq; try (have hq' := hq; simp only [hqs] at hq'))))
              repeat' (first
                  | refine rnZ ?_
                  | refine rnSB ?_
                  | refine rnG ?_
                  | refine rnU ?_
                  | ((fail_if_success (refine rnKn ?_)); refine rnP ?_ ?_ <;> (intro hq; try (have hq' := hq; simp only [hqs] at hq')))
                  | refine rkZ ?_
                  | refine rkSB ?_
                  | refine rkF ?_
                  | refine rkU ?_
                  | ((fail_if_success (refine rkKn ?_)); refine rkP ?_ ?_ <;> (intro hq; try (have hq' := hq; simp only [hqs] at hq')))
                  | refine stp ?_
                  | refine ifT ?_
                  | refine ifF ?_
                  | (refine ifQ ?_ ?_ <;> (try (intro hn)))
                  | (refine ifB ?_ ?_ <;> (intro hq; try (have hq' := hq; simp only [hqs] at hq'))))
              exact ⟨(k + 1, at' + 1), _, by dsimp only; omega, ⟨by dsimp only; omega, by dsimp only; omega⟩, .refl, by exact frA⟩
        · have c4 : decide ((k : Int) < (ls.length : Int)) = false := decide_eq_false (by omega)
          haveI : OC Try.prog 37 [.o (.ptr 13 0 0), .p (.sl 1 (([1] : List Int).map fun n => [PVal.v (.int .i64 n)]) true)] [(13, (1, some (.box 52 (([.bool false, .slice none 0 0] : List Value).map fun v => .p (.v v)))))] [] True (.tup [.one (.p (.i 0)), .one (.p (.i 6))]) [(13, (1, some zsrc))] := ⟨fun _ => (zpick_c 0 [1] true).one 13⟩
          repeat' (first
              | refine rnZ ?_
              | refine rnSB ?_
              | refine rnG ?_
              | refine rnU ?_
              | ((fail_if_success (refine rnKn ?_)); refine rnP ?_ ?_ <;> (intro hq; try (have hq' := hq; simp only [hqs] at hq')))
              | refine rkZ ?_
              | refine rkSB ?_
              | refine rkF ?_
              | refine rkU ?_
              | ((fail_if_success (refine rkKn ?_)); refine rkP ?_ ?_ <;> (intro hq; try (have hq' := hq; simp only [hqs] at hq')))
              | refine stp ?_
              | refine ifT ?_
              | refine ifF ?_
              | (refine ifQ ?_ ?_ <;> (try (intro hn)))
              | (refine ifB ?_ ?_ <;> (intro hq; try (have hq' := hq; simp only [hqs] at hq'))))
          exact rt1 rfl rfl finS_p rfl
end Go.Proofs.Ytbhcdkhejgkhaaa.Dr
