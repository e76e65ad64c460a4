/- Chapter 25 (draw): the fixed calls; what is dealt is the list. -/
import Derived.Test.YtbhcdkhejgkhaaaDs
import Derived.Test.YtbhcdkhejgkhaaaDu
import Derived.Test.YtbhcdkhejgkhaaaDv
namespace Go.Proofs.Ytbhcdkhejgkhaaa.Dr
open Go Go.RowKit Go.Aw
set_option linter.unusedVariables false
set_option linter.unusedSimpArgs false
set_option maxRecDepth 4000

instance {d : Int} : PC Try.prog 33 [nilA, .p (.k .u64 d)] (0 ≤ d ∧ d < 18446744073709551616) (.tup [.one (.p (.i 0)), .one (.p (.i 4))]) := ⟨fun h => (pick_c [] true d ⟨by decide, h⟩).ent (.cons .nil (.cons .refl .nil))⟩
instance {c n : Nat} {ds : List Int} {ex : Bool} : OC Try.prog 37 [.o (.ptr c n 0), nilA] [(c, (n + 1, some (srcB ds ex)))] [] (ds.length ≤ 1000000000 ∧ u64ok ds)
    (.tup [.one (.p (.i 0)), .one (.p (.i 1))]) [(c, (n + 1, some (srcB ds ex)))] := ⟨fun h => ((spick_c n ds [] ex true ⟨h.1, by decide⟩ h.2).one c).ent (.cons .refl (.cons .nil .nil))⟩
theorem alive_c : PCall Try.prog 27 [] (.p (.b true)) := by
  refine pcall_of Try.func27 rfl (fun w0 F S0 M0 => ?_)
  repeat' (first
      | refine rnA ?_
      | refine rnS ?_
      | refine rnG ?_
      | refine rnU ?_
      | ((fail_if_success (refine rnKn ?_)); refine rnP ?_ ?_ <;> (intro hq; try (have hq' := hq; simp only [hqs] at hq')))
      | refine rkA ?_
      | refine rkS ?_
      | refine rkF ?_
      | refine rkU ?_
      | ((fail_if_success (refine rkKn ?_)); refine rkP ?_ ?_ <;> (intro hq; try (have hq' := hq; simp only [hqs] at hq')))
      | refine stp ?_
      | refine aws_draws [] mixed (by kernel_rfl) ?_
      | refine ifT ?_
      | refine ifF ?_
      | (refine ifQ ?_ ?_ <;> (try (intro hn)))
      | (refine ifB ?_ ?_ <;> (intro hq; try (have hq' := hq; simp only [hqs] at hq'))))
  all_goals exact rt1 rfl rfl finS_p rfl
instance : PC Try.prog 27 [] True (.p (.b true)) := ⟨fun _ => alive_c⟩

theorem dealF_perm : ∀ (ds out rest : List Int), (dealF out rest ds).Perm (out ++ rest)
  | [], _, _ => .refl _
  | d :: ds, out, rest => by
    unfold dealF
    split
    · exact .refl _
    · rename_i h
      have hm := mod_in d rest.length
      have hi : (d % rest.length).toNat < rest.length := by omega
      refine (dealF_perm ds _ _).trans ?_
      have e : (d % (rest.length : Int) + 1).toNat = (d % rest.length).toNat + 1 := by omega
      rw [e]
      have e2 : rest = rest.take (d % rest.length).toNat ++ (rest.getD (d % rest.length).toNat default :: rest.drop ((d % rest.length).toNat + 1)) := by
        rw [← drop_cons_getD hi, List.take_append_drop]
      generalize rest.getD (d % rest.length).toNat default = x at *
      rw [List.append_assoc]
      refine List.Perm.append_left _ ?_
      conv => rhs; rw [e2]
      exact (List.perm_middle (a := x) (l₁ := rest.take (d % rest.length).toNat) (l₂ := rest.drop ((d % rest.length).toNat + 1))).symm
theorem deals_c (l ds : List Int) (ex ey : Bool) (h : l.length ≤ 9223372036854775807 ∧ ds.length ≤ 9223372036854775807) (hd : u64ok ds) : PCall Try.prog 8 [ints l ex, u64s ds ey] (.p (.b true)) := by
  refine pcall_of Try.func8 rfl (fun w0 F S0 M0 => ?_)
  have hp := dealF_perm ds [] l
  have hlen : (dealF [] l ds).length = l.length := hp.length_eq
  repeat' (first
      | refine rnA ?_
      | refine rnS ?_
      | refine rnG ?_
      | refine rnU ?_
      | ((fail_if_success (refine rnKn ?_)); refine rnP ?_ ?_ <;> (intro hq; try (have hq' := hq; simp only [hqs] at hq')))
      | refine rkA ?_
      | refine rkS ?_
      | refine rkF ?_
      | refine rkU ?_
      | ((fail_if_success (refine rkKn ?_)); refine rkP ?_ ?_ <;> (intro hq; try (have hq' := hq; simp only [hqs] at hq')))
      | refine stp ?_
      | refine aws_draws [] mixed (by kernel_rfl) ?_
      | refine ifT ?_
      | refine ifF ?_
      | (refine ifQ ?_ ?_ <;> (try (intro hn)))
      | (refine ifB ?_ ?_ <;> (intro hq; try (have hq' := hq; simp only [hqs] at hq'))))
  · exact rt1 rfl rfl finS_p rfl
  · exact rt1 rfl rfl finS_p rfl
  · refine aws_loopF [4, 6, 19, 20, 21, 22, 23, 24, 25, 26, 27, 28, 29, 30, 31, 32, 33, 34, 35, 36, 37] [] (fun (i : Nat) => [(6, .p (.i i))]) (fun _ => []) (fun i => i ≤ l.length) (fun i => l.length - i) 0 (Nat.zero_le _) (by exact knA) (by exact knA) ?_
    intro i β γ hi
    have hcount : (dealF [] l ds).count (l.getD (i : Int).toNat default) = l.count (l.getD (i : Int).toNat default) := hp.count_eq _
    repeat' (first
        | refine rnA ?_
        | refine rnS ?_
        | refine rnG ?_
        | refine rnU ?_
        | ((fail_if_success (refine rnKn ?_)); refine rnP ?_ ?_ <;> (intro hq; try (have hq' := hq; simp only [hqs] at hq')))
        | refine rkA ?_
        | refine rkS ?_
        | refine rkF ?_
        | refine rkU ?_
        | ((fail_if_success (refine rkKn ?_)); refine rkP ?_ ?_ <;> (intro hq; try (have hq' := hq; simp only [hqs] at hq')))
        | refine stp ?_
        | refine aws_draws [] mixed (by kernel_rfl) ?_
        | refine ifT ?_
        | refine ifF ?_
        | (refine ifQ ?_ ?_ <;> (try (intro hn)))
        | (refine ifB ?_ ?_ <;> (intro hq; try (have hq' := hq; simp only [hqs] at hq'))))
    · exact absurd (by rw [hcount]) hq'
    · exact ⟨i + 1, by omega, by omega, by exact frA⟩
    · exact rt1 rfl rfl finS_p (rb (decide_eq_true (by omega)).symm)
end Go.Proofs.Ytbhcdkhejgkhaaa.Dr
