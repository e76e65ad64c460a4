/- SHA-256, the program's: what is padded.; SHA-256, the program's: what is padded. -/
import Derived.Test.YtclcfjejpogdlaaGreatCS19
import Derived.Test.YtclcfjejpogdlaaGreatCS04
namespace Go.Proofs.YtclcfjejpogdlaaGreat.Sh
open Go Go.RowKit Go.Aw Go.Aw.Sha
set_option linter.unusedVariables false
set_option linter.unusedSimpArgs false
set_option maxRecDepth 8000
theorem grow_c (n : Int) (h : 0 ≤ n ∧ n ≤ 1000000000000) : OCall Tryz.prog 229 [.p (.v (.slice none 0 0)), .p (.i n)] (fun _ => (0, none)) (.o (.osl 22 0 1 0 0)) (memL [(22, (1, some (.buf 5 1 [])))]) := by
  refine ocall_ofF 22 Tryz.func229 rfl (fun w0 F S0 M0 => ?_)
  repeat' (first | refine rnA ?_ | refine rnS ?_ | refine rnG ?_ | refine rnU ?_ | ((fail_if_success (refine rnKn ?_)); refine rnP ?_ ?_ <;> (intro hq; try (have hq' := hq; simp only [hqs] at hq'))) | refine rkA ?_ | refine rkS ?_ | refine rkF ?_ | refine rkU ?_ | ((fail_if_success (refine rkKn ?_)); refine rkP ?_ ?_ <;> (intro hq; try (have hq' := hq; simp only [hqs] at hq'))) | refine stp ?_ | refine ifT ?_ | refine ifF ?_ | (refine ifQ ?_ ?_ <;> (try (intro hn))) | (refine ifB ?_ ?_ <;> (intro hq; try (have hq' := hq; simp only [hqs] at hq'))))
  · exfalso; omega
  · refine rn_any (gd_n rfl rfl) rfl (lop_cap_nil rfl rfl rfl) ?_
    repeat' (first | refine rnA ?_ | refine rnS ?_ | refine rnG ?_ | refine rnU ?_ | ((fail_if_success (refine rnKn ?_)); refine rnP ?_ ?_ <;> (intro hq; try (have hq' := hq; simp only [hqs] at hq'))) | refine rkA ?_ | refine rkS ?_ | refine rkF ?_ | refine rkU ?_ | ((fail_if_success (refine rkKn ?_)); refine rkP ?_ ?_ <;> (intro hq; try (have hq' := hq; simp only [hqs] at hq'))) | refine stp ?_ | refine ifT ?_ | refine ifF ?_ | fail)
    refine ifB ?_ ?_ <;> (intro hq; simp only [hqs] at hq)
    · repeat' (first
    | refine rnA ?_
    | refine rnS ?_
    | refine rnG ?_
    | refine rnU ?_
    | ((fail_if_success (refine rnKn ?_)); refine rnP ?_ ?_ <;> (intro hq; try (have hq' := hq; simp only [hqs] at hq')))
    | refine rkA ?_
    | refine rkS ?_
    | refine rkF ?_
    | refine rkU ?_
    | ((fail_if_success (refine rkKn ?_)); refine rkP ?_ ?_ <;> (intro hq; try (have hq' := hq; simp only [hqs] at hq')))
    | refine stp ?_
    | refine ifT ?_
    | refine ifF ?_
    | (refine ifQ ?_ ?_ <;> (try (intro hn)))
    | (refine ifB ?_ ?_ <;> (intro hq; try (have hq' := hq; simp only [hqs] at hq'))))
      refine rn_any (gd_n rfl rfl) rfl (lop_cap_nil rfl rfl rfl) ?_
      refine rn_any (gd_n rfl rfl) rfl (lop_sl_n0 rfl rfl rfl rfl) ?_
      repeat' (first | refine rnA ?_ | refine rnS ?_ | refine rnG ?_ | refine rnU ?_ | ((fail_if_success (refine rnKn ?_)); refine rnP ?_ ?_ <;> (intro hq; try (have hq' := hq; simp only [hqs] at hq'))) | refine rkA ?_ | refine rkS ?_ | refine rkF ?_ | refine rkU ?_ | ((fail_if_success (refine rkKn ?_)); refine rkP ?_ ?_ <;> (intro hq; try (have hq' := hq; simp only [hqs] at hq'))) | refine stp ?_ | refine ifT ?_ | refine ifF ?_ | (refine ifQ ?_ ?_ <;> (try (intro hn))) | (refine ifB ?_ ?_ <;> (intro hq; try (have hq' := hq; simp only [hqs] at hq'))))
      refine rn_any (gd_n rfl rfl) rfl (lop_ap_z (m := n.toNat) rfl rfl rfl rfl (by omega) rfl (by decide) rfl (by omega) (by simp only [maxLen]; omega) (by omega) rfl) ?_
      repeat' (first | refine rnA ?_ | refine rnS ?_ | refine rnG ?_ | refine rnU ?_ | ((fail_if_success (refine rnKn ?_)); refine rnP ?_ ?_ <;> (intro hq; try (have hq' := hq; simp only [hqs] at hq'))) | refine rkA ?_ | refine rkS ?_ | refine rkF ?_ | refine rkU ?_ | ((fail_if_success (refine rkKn ?_)); refine rkP ?_ ?_ <;> (intro hq; try (have hq' := hq; simp only [hqs] at hq'))) | refine stp ?_ | refine ifT ?_ | refine ifF ?_ | (refine ifQ ?_ ?_ <;> (try (intro hn))) | (refine ifB ?_ ?_ <;> (intro hq; try (have hq' := hq; simp only [hqs] at hq'))))
      refine rn_any (gd_n rfl rfl) rfl (lop_sl_oh rfl rfl rfl (by omega) (by omega) rfl) ?_
      repeat' (first | refine rnA ?_ | refine rnS ?_ | refine rnG ?_ | refine rnU ?_ | ((fail_if_success (refine rnKn ?_)); refine rnP ?_ ?_ <;> (intro hq; try (have hq' := hq; simp only [hqs] at hq'))) | refine rkA ?_ | refine rkS ?_ | refine rkF ?_ | refine rkU ?_ | ((fail_if_success (refine rkKn ?_)); refine rkP ?_ ?_ <;> (intro hq; try (have hq' := hq; simp only [hqs] at hq'))) | refine stp ?_ | refine ifT ?_ | refine ifF ?_ | (refine ifQ ?_ ?_ <;> (try (intro hn))) | (refine ifB ?_ ?_ <;> (intro hq; try (have hq' := hq; simp only [hqs] at hq'))))
      exact RetO.mk (ot1 rfl rfl (.one (.kosl rfl)) rfl) ⟨.buf, trivial⟩
    · refine aws_says (says_nil (t := 0) (o := 22) (ty := 5) (es := 1) rfl rfl (by decide)) ?_
      repeat' (first | refine rnA ?_ | refine rnS ?_ | refine rnG ?_ | refine rnU ?_ | ((fail_if_success (refine rnKn ?_)); refine rnP ?_ ?_ <;> (intro hq; try (have hq' := hq; simp only [hqs] at hq'))) | refine rkA ?_ | refine rkS ?_ | refine rkF ?_ | refine rkU ?_ | ((fail_if_success (refine rkKn ?_)); refine rkP ?_ ?_ <;> (intro hq; try (have hq' := hq; simp only [hqs] at hq'))) | refine stp ?_ | refine ifT ?_ | refine ifF ?_ | (refine ifQ ?_ ?_ <;> (try (intro hn))) | (refine ifB ?_ ?_ <;> (intro hq; try (have hq' := hq; simp only [hqs] at hq'))))
      exact RetO.mk (ot1 rfl rfl (.one (.kosl rfl)) rfl) ⟨.buf, trivial⟩
instance {c k : Nat} {n : Int} : OC Tryz.prog 229 [.p (.v (.slice none 0 0)), .p (.i n)] [] [(c, k)] (0 ≤ n ∧ n ≤ 1000000000000) (.o (.osl c k 1 0 0)) [(c, (k + 1, some (.buf 5 1 [])))] := ⟨fun h => (grow_c n h).fresh1 c k⟩
/-- texts, one behind the other -/
abbrev pieceR (p : List Nat × Bool) : List PVal := [PVal.sl 1 (p.1.map fun n : Nat => [PVal.k .u8 (n : Int)]) p.2]
abbrev pieces (ls : List (List Nat × Bool)) (ex : Bool) : AV := .p (.sl 1 (ls.map pieceR) ex)
def flat (ls : List (List Nat × Bool)) (i : Nat) : List Nat := (ls.take i).flatMap (·.1)
theorem flat_succ (ls : List (List Nat × Bool)) {i : Nat} (h : i < ls.length) : flat ls (i + 1) = flat ls i ++ (ls.getD i default).1 := by
  unfold flat
  rw [List.take_succ_eq_append_getElem h, List.flatMap_append]
  simp [List.getD_eq_getElem?_getD, h]
theorem flat_all (ls : List (List Nat × Bool)) : flat ls ls.length = ls.flatMap (·.1) := by unfold flat; rw [List.take_length]
theorem flat_le (ls : List (List Nat × Bool)) (i : Nat) : (flat ls i).length ≤ (ls.flatMap (·.1)).length := by
  conv => rhs; rw [← List.take_append_drop i ls, List.flatMap_append, List.length_append]
  exact Nat.le_add_right _ _
theorem concat_c (ls : List (List Nat × Bool)) (ex : Bool) (h : (ls.flatMap (·.1)).length ≤ 1000000000 ∧ ls.length ≤ 1000000000) :
    OCall Tryz.prog 180 [pieces ls ex] (fun _ => (0, none)) (.o (.osl 24 ls.length 1 0 (ls.flatMap (·.1)).length)) (memL [(24, (ls.length + 1, some (.buf 5 1 ((ls.flatMap (·.1)).map fun n : Nat => [PVal.k .u8 (n : Int)]))))]) := by
  refine ocall_ofF 24 Tryz.func180 rfl (fun w0 F S0 M0 => ?_)
  obtain ⟨hf, hl⟩ := h
  repeat' (first | refine rnA ?_ | refine rnS ?_ | refine rnG ?_ | refine rnU ?_ | ((fail_if_success (refine rnKn ?_)); refine rnP ?_ ?_ <;> (intro hq; try (have hq' := hq; simp only [hqs] at hq'))) | refine rkA ?_ | refine rkS ?_ | refine rkF ?_ | refine rkU ?_ | ((fail_if_success (refine rkKn ?_)); refine rkP ?_ ?_ <;> (intro hq; try (have hq' := hq; simp only [hqs] at hq'))) | refine stp ?_ | refine ifT ?_ | refine ifF ?_ | (refine ifQ ?_ ?_ <;> (try (intro hn))) | (refine ifB ?_ ?_ <;> (intro hq; try (have hq' := hq; simp only [hqs] at hq'))))
  refine aws_loopS [3, 5, 11, 12, 13, 14, 15, 16, 17, 18, 19, 20, 21, 22] [] (fun (x : Nat × Int) => [(11, .p (.i x.1)), (3, .p (.i x.2))]) (fun x => [])
    (fun x => x.1 ≤ ls.length ∧ x.2 = ((flat ls x.1).length : Int)) (fun x => ls.length - x.1) (0, 0) ⟨Nat.zero_le _, rfl⟩ (by exact knA) (by exact knA) ?_
  rintro ⟨i, n⟩ β γ ⟨hi, hn⟩
  simp only at hi hn
  have hfl := flat_le ls i
  have hfs : i < ls.length → (flat ls i).length + (ls.getD (i : Int).toNat default).1.length ≤ 1000000000 := fun hlt => by
    have h1 := flat_le ls (i + 1)
    rw [flat_succ ls hlt, List.length_append] at h1
    rw [Int.toNat_natCast]
    omega
  dsimp only
  repeat' (first | refine rnA ?_ | refine rnS ?_ | refine rnG ?_ | refine rnU ?_ | ((fail_if_success (refine rnKn ?_)); refine rnP ?_ ?_ <;> (intro hq; try (have hq' := hq; simp only [hqs] at hq'))) | refine rkA ?_ | refine rkS ?_ | refine rkF ?_ | refine rkU ?_ | ((fail_if_success (refine rkKn ?_)); refine rkP ?_ ?_ <;> (intro hq; try (have hq' := hq; simp only [hqs] at hq'))) | refine stp ?_ | refine ifT ?_ | refine ifF ?_ | (refine ifQ ?_ ?_ <;> (try (intro hn))) | (refine ifB ?_ ?_ <;> (intro hq; try (have hq' := hq; simp only [hqs] at hq'))))
  · exfalso; omega
  · apply ex2 (i + 1)
    apply Exists.intro
    refine ⟨?_, ⟨?_, ?_⟩, .refl, ?_⟩
    rotate_left 3
    (focus exact frA)
    · dsimp only; omega
    · dsimp only; omega
    · dsimp only
      rw [flat_succ ls (by omega), List.length_append, hn, Int.toNat_natCast]
      omega
  · have hil : i = ls.length := by omega
    refine aws_loopS (6 :: [6, 8, 27, 28, 29, 30, 31, 32, 33, 34]) [24] (fun (x : Nat × List Nat) => [(27, .p (.i x.1)), (6, .o (.osl 24 x.1 1 0 x.2.length))]) (fun x => [(24, (x.1 + 1, some (.buf 5 1 (x.2.map fun n : Nat => [PVal.k .u8 (n : Int)]))))])
      (fun x => x.1 ≤ ls.length ∧ x.2 = flat ls x.1) (fun x => ls.length - x.1) (0, []) ⟨Nat.zero_le _, rfl⟩ (by exact knA) (by exact knA) ?_
    rintro ⟨k, fs⟩ β' γ' ⟨hk, hfk⟩
    simp only at hk hfk
    have hfl' := flat_le ls k
    have hfs' : k < ls.length → fs.length + (ls.getD (k : Int).toNat default).1.length ≤ 1000000000 := fun hlt => by
      have h1 := flat_le ls (k + 1)
      rw [flat_succ ls hlt, List.length_append] at h1
      rw [Int.toNat_natCast, hfk]
      omega
    dsimp only
    repeat' (first | refine rnA ?_ | refine rnS ?_ | refine rnG ?_ | refine rnU ?_ | ((fail_if_success (refine rnKn ?_)); refine rnP ?_ ?_ <;> (intro hq; try (have hq' := hq; simp only [hqs] at hq'))) | refine rkA ?_ | refine rkS ?_ | refine rkF ?_ | refine rkU ?_ | ((fail_if_success (refine rkKn ?_)); refine rkP ?_ ?_ <;> (intro hq; try (have hq' := hq; simp only [hqs] at hq'))) | refine stp ?_ | refine ifT ?_ | refine ifF ?_ | (refine ifQ ?_ ?_ <;> (try (intro hn))) | (refine ifB ?_ ?_ <;> (intro hq; try (have hq' := hq; simp only [hqs] at hq'))))
    · apply ex2 (k + 1)
      apply Exists.intro
      refine ⟨?_, ⟨?_, ?_⟩, .refl, ?_⟩
      rotate_left 3
      (focus exact frA)
      · dsimp only; omega
      · dsimp only; omega
      · dsimp only
        rw [flat_succ ls (by omega), hfk, Int.toNat_natCast]
    · have hkl : k = ls.length := by omega
      have hfa : fs = ls.flatMap (·.1) := by rw [hfk, hkl, flat_all]
      subst hfa hkl
      exact RetO.mk (ot1 rfl rfl (.one (.kosl rfl)) rfl) ⟨.buf, trivial⟩
instance {c k : Nat} {ls : List (List Nat × Bool)} {ex : Bool} : OC Tryz.prog 180 [pieces ls ex] [] [(c, k)] ((ls.flatMap (·.1)).length ≤ 1000000000 ∧ ls.length ≤ 1000000000)
    (.o (.osl c (k + ls.length) 1 0 (ls.flatMap (·.1)).length)) [(c, (k + (ls.length + 1), some (.buf 5 1 ((ls.flatMap (·.1)).map fun n : Nat => [PVal.k .u8 (n : Int)]))))] := ⟨fun h => (concat_c ls ex h).fresh1 c k⟩
end Go.Proofs.YtclcfjejpogdlaaGreat.Sh
namespace Go.Proofs.YtclcfjejpogdlaaGreat.Sh
open Go Go.RowKit Go.Aw Go.Aw.Sha
set_option linter.unusedVariables false
set_option linter.unusedSimpArgs false
set_option maxRecDepth 8000
abbrev br (n : Nat) : List PVal := [PVal.k .u8 (n : Int)]
theorem padded_c (ls : List (List Nat × Bool)) (ex : Bool) (h : (ls.flatMap (·.1)).length ≤ 500000000 ∧ ls.length ≤ 1000000000) :
    PCall Tryz.prog 85 [pieces ls ex] (bytesN (pad (ls.flatMap (·.1))) false) := by
  refine pcall_of Tryz.func85 rfl (fun w0 F S0 M0 => ?_)
  obtain ⟨hf, hl⟩ := h
  have hf' : (ls.flatMap (·.1)).length ≤ 1000000000 := by omega
  repeat' (first | refine rnAW ?_ | refine rnS ?_ | refine rnG ?_ | refine rnU ?_ | ((fail_if_success (refine rnKn ?_)); refine rnP ?_ ?_ <;> (intro hq; try (have hq' := hq; simp only [hqs] at hq'))) | refine rkAW ?_ | refine rkS ?_ | refine rkF ?_ | refine rkU ?_ | ((fail_if_success (refine rkKn ?_)); refine rkP ?_ ?_ <;> (intro hq; try (have hq' := hq; simp only [hqs] at hq'))) | refine stp ?_ | refine ifT ?_ | refine ifF ?_ | (refine ifQ ?_ ?_ <;> (try (intro hn))) | (refine ifB ?_ ?_ <;> (intro hq; try (have hq' := hq; simp only [hqs] at hq'))))
  generalize hL : (ls.flatMap (·.1)) = L at hf hf' ⊢
  refine aws_loopS (3 :: [3, 15, 16, 17, 18, 19, 20, 21]) [7] (fun (x : Nat × List Nat) => [(3, .o (.osl 7 (0 + (ls.length + 1) + x.1) 1 0 x.2.length))]) (fun x => [(7, (0 + (ls.length + 1) + x.1 + 1, some (.buf 5 1 (x.2.map br))))])
    (fun x => x.1 ≤ zeros L.length ∧ x.2 = L ++ [128] ++ List.replicate x.1 0) (fun x => zeros L.length - x.1) (0, L ++ [128]) ⟨Nat.zero_le _, by simp⟩ (by exact knA) (by exact knA) ?_
  rintro ⟨j, bs⟩ β γ ⟨hj, hb⟩
  simp only at hj hb
  have hz : zeros L.length ≤ 63 := by unfold zeros; omega
  have hbl : bs.length = L.length + 1 + j := by rw [hb]; simp; omega
  have hzj : ((bs.length : Int) % 64 = 56 ∧ j = zeros L.length) ∨ (¬ (bs.length : Int) % 64 = 56 ∧ j < zeros L.length) := by
    rw [hbl]; unfold zeros at hj ⊢; omega
  dsimp only
  repeat' (first | refine rnA ?_ | refine rnS ?_ | refine rnG ?_ | refine rnU ?_ | ((fail_if_success (refine rnKn ?_)); refine rnP ?_ ?_ <;> (intro hq; try (have hq' := hq; simp only [hqs] at hq'))) | refine rkA ?_ | refine rkS ?_ | refine rkF ?_ | refine rkU ?_ | ((fail_if_success (refine rkKn ?_)); refine rkP ?_ ?_ <;> (intro hq; try (have hq' := hq; simp only [hqs] at hq'))) | refine stp ?_ | refine aws_draws [] mixed (by kernel_rfl) ?_ | refine ifT ?_ | refine ifF ?_ | (refine ifQ ?_ ?_ <;> (try (intro hn))) | (refine ifB ?_ ?_ <;> (intro hq; try (have hq' := hq; simp only [hqs] at hq'))))
  · apply ex2 (j + 1)
    apply Exists.intro
    refine ⟨?_, ⟨?_, ?_⟩, .refl, ?_⟩
    rotate_left 3
    (focus exact frA)
    · dsimp only; omega
    · dsimp only; omega
    · dsimp only
      rw [hb, List.replicate_succ']; simp
  · have hjz : j = zeros L.length := by omega
    refine aws_loopS (3 :: [3, 5, 22, 23, 24, 25, 26, 27, 28, 29, 30, 31, 32, 33]) [7] (fun (x : Nat × Int × List Nat) => [(5, .p (.i x.2.1)), (3, .o (.osl 7 (0 + (ls.length + 1) + j + x.1) 1 0 x.2.2.length))]) (fun x => [(7, (0 + (ls.length + 1) + j + x.1 + 1, some (.buf 5 1 (x.2.2.map br))))])
      (fun x => x.1 ≤ 8 ∧ x.2.1 = 7 - (x.1 : Int) ∧ x.2.2 = bs ++ (lenBytes L.length).take x.1) (fun x => 8 - x.1) (0, 7, bs) ⟨Nat.zero_le _, rfl, by simp⟩ (by exact knA) (by exact knA) ?_
    rintro ⟨k, t, cs⟩ β' γ' ⟨hk, ht, hc⟩
    simp only at hk ht hc
    have hll : (lenBytes L.length).length = 8 := by simp [lenBytes]
    have hcl : cs.length = bs.length + k := by rw [hc, List.length_append, List.length_take, hll]; omega
    dsimp only
    repeat' (first | refine rnAW ?_ | refine rnS ?_ | refine rnG ?_ | refine rnU ?_ | ((fail_if_success (refine rnKn ?_)); refine rnP ?_ ?_ <;> (intro hq; try (have hq' := hq; simp only [hqs] at hq'))) | refine rkAW ?_ | refine rkS ?_ | refine rkF ?_ | refine rkU ?_ | ((fail_if_success (refine rkKn ?_)); refine rkP ?_ ?_ <;> (intro hq; try (have hq' := hq; simp only [hqs] at hq'))) | refine stp ?_ | refine ifT ?_ | refine ifF ?_ | (refine ifQ ?_ ?_ <;> (try (intro hn))) | (refine ifB ?_ ?_ <;> (intro hq; try (have hq' := hq; simp only [hqs] at hq'))))
    · apply ex3 (k + 1) (t - 1)
      apply Exists.intro
      refine ⟨?_, ⟨?_, ?_, ?_⟩, .refl, ?_⟩
      rotate_left 4
      (focus exact frA)
      · dsimp only; omega
      · dsimp only; omega
      · dsimp only; omega
      · have e : (8 * t).toNat = 8 * (7 - k) := by omega
        have em : L.length % md .u64 = L.length := Nat.mod_eq_of_lt (by show L.length < 18446744073709551616; omega)
        dsimp only
        rw [hc, e, em, List.append_assoc, List.take_succ_eq_append_getElem (by rw [hll]; omega)]
        simp only [lenBytes, List.getElem_map, List.getElem_range]
        rfl
    · have hk8 : k = 8 := by omega
      refine rt1 rfl rfl (.one (finC_map rfl rfl rfl rfl)) (rs ?_)
      rw [hc, hb, hjz, hk8, List.take_of_length_le (by rw [hll]; omega)]
      rfl
instance {ls : List (List Nat × Bool)} {ex : Bool} : PC Tryz.prog 85 [pieces ls ex] ((ls.flatMap (·.1)).length ≤ 500000000 ∧ ls.length ≤ 1000000000) (bytesN (pad (ls.flatMap (·.1))) false) := ⟨padded_c ls ex⟩
end Go.Proofs.YtclcfjejpogdlaaGreat.Sh
