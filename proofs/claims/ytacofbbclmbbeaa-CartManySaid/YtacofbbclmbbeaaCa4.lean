/- carts: values, one behind the other -/
import Derived.Test.YtacofbbclmbbeaaCa1
import Derived.Test.YtacofbbclmbbeaaKj
namespace Go.Proofs.Ytacofbbclmbbeaa.Ca
open Go Go.RowKit Go.Aw Go.Aw.Cart
set_option linter.unusedVariables false
set_option linter.unusedSimpArgs false
set_option maxRecDepth 8000
set_option maxHeartbeats 4000000

theorem valuesE_w (l : List Ent) (ex : Bool) : PCall Try.prog 50 [.p (.sl 4 (l.map eR) ex)] (.p (.fnv 81 [.bx [.sl 4 (l.map eR) ex] 0])) := by
  refine pcall_of Try.func50 rfl (fun w0 F S0 M0 => ?_)
  repeat' (first
      | refine rnJ ?_
      | refine rnSB ?_
      | refine rnG ?_
      | refine rnU ?_
      | ((fail_if_success (refine rnKn ?_)); refine rnP ?_ ?_ <;> (intro hq; try (have hq' := hq; simp only [hqs] at hq')))
      | refine rkJ ?_
      | refine rkSB ?_
      | refine rkF ?_
      | refine rkU ?_
      | ((fail_if_success (refine rkKn ?_)); refine rkP ?_ ?_ <;> (intro hq; try (have hq' := hq; simp only [hqs] at hq')))
      | refine stp ?_
      | refine aws_draws [] mixed (by kernel_rfl) ?_
      | refine ifT ?_
      | refine ifF ?_
      | (refine ifQ ?_ ?_ <;> (try (intro hn)))
      | (refine ifB ?_ ?_ <;> (intro hq; try (have hq' := hq; simp only [hqs] at hq'))))
  exact rt1 rfl rfl finS_p rfl
instance {l : List Ent} {ex : Bool} : PC Try.prog 50 [.p (.sl 4 (l.map eR) ex)] True (.p (.fnv 81 [.bx [.sl 4 (l.map eR) ex] 0])) := ⟨fun _ => valuesE_w l ex⟩
theorem iterE_w (l : List Ent) (ex : Bool) (h : l.length ≤ 1000000000) : ICall Try.prog 81 [.bx [.sl 4 (l.map eR) ex] 0] (l.map eV) := by
  refine icall_of Try.func81 rfl (fun w0 F S0 M0 I yv hone hY => ?_)
  simp only [List.length_map]
  repeat' (first
      | refine rnJ ?_
      | refine rnSB ?_
      | refine rnG ?_
      | refine rnU ?_
      | ((fail_if_success (refine rnKn ?_)); refine rnP ?_ ?_ <;> (intro hq; try (have hq' := hq; simp only [hqs] at hq')))
      | refine rkJ ?_
      | refine rkSB ?_
      | refine rkF ?_
      | refine rkU ?_
      | ((fail_if_success (refine rkKn ?_)); refine rkP ?_ ?_ <;> (intro hq; try (have hq' := hq; simp only [hqs] at hq')))
      | refine stp ?_
      | refine aws_draws [] mixed (by kernel_rfl) ?_
      | refine ifT ?_
      | refine ifF ?_
      | (refine ifQ ?_ ?_ <;> (try (intro hn)))
      | (refine ifB ?_ ?_ <;> (intro hq; try (have hq' := hq; simp only [hqs] at hq'))))
  refine aws_loopS [4, 7, 8, 9, 10, 11, 12, 13, 14, 15] [1000, 4] (fun (x : Nat × Option MO) => [(7, .p (.i x.1))]) (fun x => [(1000, (1, some (.abs (I x.1)))), (4, (x.1, x.2))])
    (fun x => x.1 ≤ l.length) (fun x => l.length - x.1) (0, none) (Nat.zero_le _) (by exact knA) (by exact knA) ?_
  rintro ⟨i, c4⟩ β γ hi
  simp only at hi
  dsimp only
  by_cases hil : i < l.length
  · have hd : decide ((i : Int) < (l.length : Int)) = true := decide_eq_true (by omega)
    have hy := hY i (eV (l.getD (i : Int).toNat default)) (by rw [Int.toNat_natCast, List.getElem?_map, List.getD_eq_getElem?_getD, List.getElem?_eq_getElem hil]; rfl)
    repeat' (first
        | refine rnJ ?_
        | refine rnSB ?_
        | refine rnG ?_
        | refine rnU ?_
        | ((fail_if_success (refine rnKn ?_)); refine rnP ?_ ?_ <;> (intro hq; try (have hq' := hq; simp only [hqs] at hq')))
        | refine rkJ ?_
        | refine rkSB ?_
        | refine rkF ?_
        | refine rkU ?_
        | ((fail_if_success (refine rkKn ?_)); refine rkP ?_ ?_ <;> (intro hq; try (have hq' := hq; simp only [hqs] at hq')))
        | refine stp ?_
        | refine aws_draws [] mixed (by kernel_rfl) ?_
        | refine ifT ?_
        | refine ifF ?_
        | (refine ifQ ?_ ?_ <;> (try (intro hn)))
        | (refine ifB ?_ ?_ <;> (intro hq; try (have hq' := hq; simp only [hqs] at hq'))))
    exact ⟨(i + 1, some (.box 31 (eL (l.getD (i : Int).toNat default)))), _, by dsimp only; omega, by dsimp only; omega, .refl, by exact frA⟩
  · have hd : decide ((i : Int) < (l.length : Int)) = false := decide_eq_false (by omega)
    obtain rfl : i = l.length := by omega
    repeat' (first
        | refine rnJ ?_
        | refine rnSB ?_
        | refine rnG ?_
        | refine rnU ?_
        | ((fail_if_success (refine rnKn ?_)); refine rnP ?_ ?_ <;> (intro hq; try (have hq' := hq; simp only [hqs] at hq')))
        | refine rkJ ?_
        | refine rkSB ?_
        | refine rkF ?_
        | refine rkU ?_
        | ((fail_if_success (refine rkKn ?_)); refine rkP ?_ ?_ <;> (intro hq; try (have hq' := hq; simp only [hqs] at hq')))
        | refine stp ?_
        | refine aws_draws [] mixed (by kernel_rfl) ?_
        | refine ifT ?_
        | refine ifF ?_
        | (refine ifQ ?_ ?_ <;> (try (intro hn)))
        | (refine ifB ?_ ?_ <;> (intro hq; try (have hq' := hq; simp only [hqs] at hq'))))
    show RetO _ _ _ _ _ .normal _
    exact RetO.mk (res0 rfl rfl) ⟨.abs, trivial⟩

theorem valuesD_w (l : List Dot) (ex : Bool) : PCall Try.prog 78 [.p (.sl 2 (l.map dR) ex)] (.p (.fnv 104 [.bx [.sl 2 (l.map dR) ex] 0])) := by
  refine pcall_of Try.func78 rfl (fun w0 F S0 M0 => ?_)
  repeat' (first
      | refine rnJ ?_
      | refine rnSB ?_
      | refine rnG ?_
      | refine rnU ?_
      | ((fail_if_success (refine rnKn ?_)); refine rnP ?_ ?_ <;> (intro hq; try (have hq' := hq; simp only [hqs] at hq')))
      | refine rkJ ?_
      | refine rkSB ?_
      | refine rkF ?_
      | refine rkU ?_
      | ((fail_if_success (refine rkKn ?_)); refine rkP ?_ ?_ <;> (intro hq; try (have hq' := hq; simp only [hqs] at hq')))
      | refine stp ?_
      | refine aws_draws [] mixed (by kernel_rfl) ?_
      | refine ifT ?_
      | refine ifF ?_
      | (refine ifQ ?_ ?_ <;> (try (intro hn)))
      | (refine ifB ?_ ?_ <;> (intro hq; try (have hq' := hq; simp only [hqs] at hq'))))
  exact rt1 rfl rfl finS_p rfl
instance {l : List Dot} {ex : Bool} : PC Try.prog 78 [.p (.sl 2 (l.map dR) ex)] True (.p (.fnv 104 [.bx [.sl 2 (l.map dR) ex] 0])) := ⟨fun _ => valuesD_w l ex⟩
theorem iterD_w (l : List Dot) (ex : Bool) (h : l.length ≤ 1000000000) : ICall Try.prog 104 [.bx [.sl 2 (l.map dR) ex] 0] (l.map dV) := by
  refine icall_of Try.func104 rfl (fun w0 F S0 M0 I yv hone hY => ?_)
  simp only [List.length_map]
  repeat' (first
      | refine rnJ ?_
      | refine rnSB ?_
      | refine rnG ?_
      | refine rnU ?_
      | ((fail_if_success (refine rnKn ?_)); refine rnP ?_ ?_ <;> (intro hq; try (have hq' := hq; simp only [hqs] at hq')))
      | refine rkJ ?_
      | refine rkSB ?_
      | refine rkF ?_
      | refine rkU ?_
      | ((fail_if_success (refine rkKn ?_)); refine rkP ?_ ?_ <;> (intro hq; try (have hq' := hq; simp only [hqs] at hq')))
      | refine stp ?_
      | refine aws_draws [] mixed (by kernel_rfl) ?_
      | refine ifT ?_
      | refine ifF ?_
      | (refine ifQ ?_ ?_ <;> (try (intro hn)))
      | (refine ifB ?_ ?_ <;> (intro hq; try (have hq' := hq; simp only [hqs] at hq'))))
  refine aws_loopS [4, 7, 8, 9, 10, 11, 12, 13, 14, 15] [1000, 4] (fun (x : Nat × Option MO) => [(7, .p (.i x.1))]) (fun x => [(1000, (1, some (.abs (I x.1)))), (4, (x.1, x.2))])
    (fun x => x.1 ≤ l.length) (fun x => l.length - x.1) (0, none) (Nat.zero_le _) (by exact knA) (by exact knA) ?_
  rintro ⟨i, c4⟩ β γ hi
  simp only at hi
  dsimp only
  by_cases hil : i < l.length
  · have hd : decide ((i : Int) < (l.length : Int)) = true := decide_eq_true (by omega)
    have hy := hY i (dV (l.getD (i : Int).toNat default)) (by rw [Int.toNat_natCast, List.getElem?_map, List.getD_eq_getElem?_getD, List.getElem?_eq_getElem hil]; rfl)
    repeat' (first
        | refine rnJ ?_
        | refine rnSB ?_
        | refine rnG ?_
        | refine rnU ?_
        | ((fail_if_success (refine rnKn ?_)); refine rnP ?_ ?_ <;> (intro hq; try (have hq' := hq; simp only [hqs] at hq')))
        | refine rkJ ?_
        | refine rkSB ?_
        | refine rkF ?_
        | refine rkU ?_
        | ((fail_if_success (refine rkKn ?_)); refine rkP ?_ ?_ <;> (intro hq; try (have hq' := hq; simp only [hqs] at hq')))
        | refine stp ?_
        | refine aws_draws [] mixed (by kernel_rfl) ?_
        | refine ifT ?_
        | refine ifF ?_
        | (refine ifQ ?_ ?_ <;> (try (intro hn)))
        | (refine ifB ?_ ?_ <;> (intro hq; try (have hq' := hq; simp only [hqs] at hq'))))
    exact ⟨(i + 1, some (.box 65 (dL (l.getD (i : Int).toNat default)))), _, by dsimp only; omega, by dsimp only; omega, .refl, by exact frA⟩
  · have hd : decide ((i : Int) < (l.length : Int)) = false := decide_eq_false (by omega)
    obtain rfl : i = l.length := by omega
    repeat' (first
        | refine rnJ ?_
        | refine rnSB ?_
        | refine rnG ?_
        | refine rnU ?_
        | ((fail_if_success (refine rnKn ?_)); refine rnP ?_ ?_ <;> (intro hq; try (have hq' := hq; simp only [hqs] at hq')))
        | refine rkJ ?_
        | refine rkSB ?_
        | refine rkF ?_
        | refine rkU ?_
        | ((fail_if_success (refine rkKn ?_)); refine rkP ?_ ?_ <;> (intro hq; try (have hq' := hq; simp only [hqs] at hq')))
        | refine stp ?_
        | refine aws_draws [] mixed (by kernel_rfl) ?_
        | refine ifT ?_
        | refine ifF ?_
        | (refine ifQ ?_ ?_ <;> (try (intro hn)))
        | (refine ifB ?_ ?_ <;> (intro hq; try (have hq' := hq; simp only [hqs] at hq'))))
    show RetO _ _ _ _ _ .normal _
    exact RetO.mk (res0 rfl rfl) ⟨.abs, trivial⟩
end Go.Proofs.Ytacofbbclmbbeaa.Ca
