/- SHA-256, the program's: what is padded.; SHA-256, the program's: what is padded.; SHA-256, the program's: the blocks, one behind the other.; SHA-256, the program's: the sum.; SHA-256, the program's: the sum, as callers write its texts. -/
import Derived.Test.YtclcfjejpogdlaaGreatIB27
import Derived.Test.YtclcfjejpogdlaaGreatIB04
namespace Go.Proofs.YtclcfjejpogdlaaGreat.Sh
open Go Go.RowKit Go.Aw Go.Aw.Sha
set_option linter.unusedVariables false
set_option linter.unusedSimpArgs false
set_option maxRecDepth 8000
theorem grow_c (n : Int) (h : 0 ≤ n ∧ n ≤ 1000000000000) : OCall Tryz.prog 229 [.p (.v (.slice none 0 0)), .p (.i n)] (fun _ => (0, none)) (.o (.osl 22 0 1 0 0)) (memL [(22, (1, some (.buf 5 1 [])))]) := by
  refine ocall_ofF 22 Tryz.func229 rfl (fun w0 F S0 M0 => ?_)
  repeat' (first | refine rnA ?_ | refine rnS ?_ | refine rnG ?_ | refine rnU ?_ | ((fail_if_success (refine rnKn ?_)); refine rnP ?_ ?_ <;> (intro hq; try (have hq' := hq; simp only [hqs] at hq'))) | refine rkA ?_ | refine rkS ?_ | refine rkF ?_ | refine rkU ?_ | ((fail_if_success (refine rkKn ?_)); refine rkP ?_ ?_ <;> (intro hq; try (have hq' := hq; simp only [hqs] at hq'))) | refine stp ?_ | refine ifT ?_ | refine ifF ?_ | (refine ifQ ?_ ?_ <;> (try (intro hn))) | (refine ifB ?_ ?_ <;> (intro hq; try (have hq' := hq; simp only [hqs] at hq'))))
  · exfalso; omega
  · refine rn_any (gd_n rfl rfl) rfl (lop_cap_nil rfl rfl rfl) ?_
    repeat' (first | refine rnA ?_ | refine rnS ?_ | refine rnG ?_ | refine rnU ?_ | ((fail_if_success (refine rnKn ?_)); refine rnP ?_ ?_ <;> (intro hq; try (have hq' := hq; simp only [hqs] at hq'))) | refine rkA ?_ | refine rkS ?_ | refine rkF ?_ | refine rkU ?_ | ((fail_if_success (refine rkKn ?_)); refine rkP ?_ ?_ <;> (intro hq; try (have hq' := hq; simp only [hqs] at hq'))) | refine stp ?_ | refine ifT ?_ | refine ifF ?_ | fail)
    refine ifB ?_ ?_ <;> (intro hq; simp only [hqs] at hq)
    · repeat' (first
    | refine rnA ?_
    | refine rnS ?_
    | refine rnG ?_
    | refine rnU ?_
    | ((fail_if_success (refine rnKn ?_)); refine rnP ?_ ?_ <;> (intro hq; try (have hq' := hq; simp only [hqs] at hq')))
    | refine rkA ?_
    | refine rkS ?_
    | refine rkF ?_
    | refine rkU ?_
    | ((fail_if_success (refine rkKn ?_)); refine rkP ?_ ?_ <;> (intro hq; try (have hq' := hq; simp only [hqs] at hq')))
    | refine stp ?_
    | refine ifT ?_
    | refine ifF ?_
    | (refine ifQ ?_ ?_ <;> (try (intro hn)))
    | (refine ifB ?_ ?_ <;> (intro hq; try (have hq' := hq; simp only [hqs] at hq'))))
      refine rn_any (gd_n rfl rfl) rfl (lop_cap_nil rfl rfl rfl) ?_
      refine rn_any (gd_n rfl rfl) rfl (lop_sl_n0 rfl rfl rfl rfl) ?_
      repeat' (first | refine rnA ?_ | refine rnS ?_ | refine rnG ?_ | refine rnU ?_ | ((fail_if_success (refine rnKn ?_)); refine rnP ?_ ?_ <;> (intro hq; try (have hq' := hq; simp only [hqs] at hq'))) | refine rkA ?_ | refine rkS ?_ | refine rkF ?_ | refine rkU ?_ | ((fail_if_success (refine rkKn ?_)); refine rkP ?_ ?_ <;> (intro hq; try (have hq' := hq; simp only [hqs] at hq'))) | refine stp ?_ | refine ifT ?_ | refine ifF ?_ | (refine ifQ ?_ ?_ <;> (try (intro hn))) | (refine ifB ?_ ?_ <;> (intro hq; try (have hq' := hq; simp only [hqs] at hq'))))
      refine rn_any (gd_n rfl rfl) rfl (lop_ap_z (m := n.toNat) rfl rfl rfl rfl (by omega) rfl (by decide) rfl (by omega) (by simp only [maxLen]; omega) (by omega) rfl) ?_
      repeat' (first | refine rnA ?_ | refine rnS ?_ | refine rnG ?_ | refine rnU ?_ | ((fail_if_success (refine rnKn ?_)); refine rnP ?_ ?_ <;> (intro hq; try (have hq' := hq; simp only [hqs] at hq'))) | refine rkA ?_ | refine rkS ?_ | refine rkF ?_ | refine rkU ?_ | ((fail_if_success (refine rkKn ?_)); refine rkP ?_ ?_ <;> (intro hq; try (have hq' := hq; simp only [hqs] at hq'))) | refine stp ?_ | refine ifT ?_ | refine ifF ?_ | (refine ifQ ?_ ?_ <;> (try (intro hn))) | (refine ifB ?_ ?_ <;> (intro hq; try (have hq' := hq; simp only [hqs] at hq'))))
      refine rn_any (gd_n rfl rfl) rfl (lop_sl_oh rfl rfl rfl (by omega) (by omega) rfl) ?_
      repeat' (first | refine rnA ?_ | refine rnS ?_ | refine rnG ?_ | refine rnU ?_ | ((fail_if_success (refine rnKn ?_)); refine rnP ?_ ?_ <;> (intro hq; try (have hq' := hq; simp only [hqs] at hq'))) | refine rkA ?_ | refine rkS ?_ | refine rkF ?_ | refine rkU ?_ | ((fail_if_success (refine rkKn ?_)); refine rkP ?_ ?_ <;> (intro hq; try (have hq' := hq; simp only [hqs] at hq'))) | refine stp ?_ | refine ifT ?_ | refine ifF ?_ | (refine ifQ ?_ ?_ <;> (try (intro hn))) | (refine ifB ?_ ?_ <;> (intro hq; try (have hq' := hq; simp only [hqs] at hq'))))
      exact RetO.mk (ot1 rfl rfl (.one (.kosl rfl)) rfl) ⟨.buf, trivial⟩
    · refine aws_says (says_nil (t := 0) (o := 22) (ty := 5) (es := 1) rfl rfl (by decide)) ?_
      repeat' (first | refine rnA ?_ | refine rnS ?_ | refine rnG ?_ | refine rnU ?_ | ((fail_if_success (refine rnKn ?_)); refine rnP ?_ ?_ <;> (intro hq; try (have hq' := hq; simp only [hqs] at hq'))) | refine rkA ?_ | refine rkS ?_ | refine rkF ?_ | refine rkU ?_ | ((fail_if_success (refine rkKn ?_)); refine rkP ?_ ?_ <;> (intro hq; try (have hq' := hq; simp only [hqs] at hq'))) | refine stp ?_ | refine ifT ?_ | refine ifF ?_ | (refine ifQ ?_ ?_ <;> (try (intro hn))) | (refine ifB ?_ ?_ <;> (intro hq; try (have hq' := hq; simp only [hqs] at hq'))))
      exact RetO.mk (ot1 rfl rfl (.one (.kosl rfl)) rfl) ⟨.buf, trivial⟩
instance {c k : Nat} {n : Int} : OC Tryz.prog 229 [.p (.v (.slice none 0 0)), .p (.i n)] [] [(c, k)] (0 ≤ n ∧ n ≤ 1000000000000) (.o (.osl c k 1 0 0)) [(c, (k + 1, some (.buf 5 1 [])))] := ⟨fun h => (grow_c n h).fresh1 c k⟩
/-- texts, one behind the other -/
abbrev pieceR (p : List Nat × Bool) : List PVal := [PVal.sl 1 (p.1.map fun n : Nat => [PVal.k .u8 (n : Int)]) p.2]
abbrev pieces (ls : List (List Nat × Bool)) (ex : Bool) : AV := .p (.sl 1 (ls.map pieceR) ex)
def flat (ls : List (List Nat × Bool)) (i : Nat) : List Nat := (ls.take i).flatMap (·.1)
theorem flat_succ (ls : List (List Nat × Bool)) {i : Nat} (h : i < ls.length) : flat ls (i + 1) = flat ls i ++ (ls.getD i default).1 := by
  unfold flat
  rw [List.take_succ_eq_append_getElem h, List.flatMap_append]
  simp [List.getD_eq_getElem?_getD, h]
theorem flat_all (ls : List (List Nat × Bool)) : flat ls ls.length = ls.flatMap (·.1) := by unfold flat; rw [List.take_length]
theorem flat_le (ls : List (List Nat × Bool)) (i : Nat) : (flat ls i).length ≤ (ls.flatMap (·.1)).length := by
  conv => rhs; rw [← List.take_append_drop i ls, List.flatMap_append, List.length_append]
  exact Nat.le_add_right _ _
theorem concat_c (ls : List (List Nat × Bool)) (ex : Bool) (h : (ls.flatMap (·.1)).length ≤ 1000000000 ∧ ls.length ≤ 1000000000) :
    OCall Tryz.prog 180 [pieces ls ex] (fun _ => (0, none)) (.o (.osl 24 ls.length 1 0 (ls.flatMap (·.1)).length)) (memL [(24, (ls.length + 1, some (.buf 5 1 ((ls.flatMap (·.1)).map fun n : Nat => [PVal.k .u8 (n : Int)]))))]) := by
  refine ocall_ofF 24 Tryz.func180 rfl (fun w0 F S0 M0 => ?_)
  obtain ⟨hf, hl⟩ := h
  repeat' (first | refine rnA ?_ | refine rnS ?_ | refine rnG ?_ | refine rnU ?_ | ((fail_if_success (refine rnKn ?_)); refine rnP ?_ ?_ <;> (intro hq; try (have hq' := hq; simp only [hqs] at hq'))) | refine rkA ?_ | refine rkS ?_ | refine rkF ?_ | refine rkU ?_ | ((fail_if_success (refine rkKn ?_)); refine rkP ?_ ?_ <;> (intro hq; try (have hq' := hq; simp only [hqs] at hq'))) | refine stp ?_ | refine ifT ?_ | refine ifF ?_ | (refine ifQ ?_ ?_ <;> (try (intro hn))) | (refine ifB ?_ ?_ <;> (intro hq; try (have hq' := hq; simp only [hqs] at hq'))))
  refine aws_loopS [3, 5, 11, 12, 13, 14, 15, 16, 17, 18, 19, 20, 21, 22] [] (fun (x : Nat × Int) => [(11, .p (.i x.1)), (3, .p (.i x.2))]) (fun x => [])
    (fun x => x.1 ≤ ls.length ∧ x.2 = ((flat ls x.1).length : Int)) (fun x => ls.length - x.1) (0, 0) ⟨Nat.zero_le _, rfl⟩ (by exact knA) (by exact knA) ?_
  rintro ⟨i, n⟩ β γ ⟨hi, hn⟩
  simp only at hi hn
  have hfl := flat_le ls i
  have hfs : i < ls.length → (flat ls i).length + (ls.getD (i : Int).toNat default).1.length ≤ 1000000000 := fun hlt => by
    have h1 := flat_le ls (i + 1)
    rw [flat_succ ls hlt, List.length_append] at h1
    rw [Int.toNat_natCast]
    omega
  dsimp only
  repeat' (first | refine rnA ?_ | refine rnS ?_ | refine rnG ?_ | refine rnU ?_ | ((fail_if_success (refine rnKn ?_)); refine rnP ?_ ?_ <;> (intro hq; try (have hq' := hq; simp only [hqs] at hq'))) | refine rkA ?_ | refine rkS ?_ | refine rkF ?_ | refine rkU ?_ | ((fail_if_success (refine rkKn ?_)); refine rkP ?_ ?_ <;> (intro hq; try (have hq' := hq; simp only [hqs] at hq'))) | refine stp ?_ | refine ifT ?_ | refine ifF ?_ | (refine ifQ ?_ ?_ <;> (try (intro hn))) | (refine ifB ?_ ?_ <;> (intro hq; try (have hq' := hq; simp only [hqs] at hq'))))
  · exfalso; omega
  · apply ex2 (i + 1)
    apply Exists.intro
    refine ⟨?_, ⟨?_, ?_⟩, .refl, ?_⟩
    rotate_left 3
    (focus exact frA)
    · dsimp only; omega
    · dsimp only; omega
    · dsimp only
      rw [flat_succ ls (by omega), List.length_append, hn, Int.toNat_natCast]
      omega
  · have hil : i = ls.length := by omega
    refine aws_loopS (6 :: [6, 8, 27, 28, 29, 30, 31, 32, 33, 34]) [24] (fun (x : Nat × List Nat) => [(27, .p (.i x.1)), (6, .o (.osl 24 x.1 1 0 x.2.length))]) (fun x => [(24, (x.1 + 1, some (.buf 5 1 (x.2.map fun n : Nat => [PVal.k .u8 (n : Int)]))))])
      (fun x => x.1 ≤ ls.length ∧ x.2 = flat ls x.1) (fun x => ls.length - x.1) (0, []) ⟨Nat.zero_le _, rfl⟩ (by exact knA) (by exact knA) ?_
    rintro ⟨k, fs⟩ β' γ' ⟨hk, hfk⟩
    simp only at hk hfk
    have hfl' := flat_le ls k
    have hfs' : k < ls.length → fs.length + (ls.getD (k : Int).toNat default).1.length ≤ 1000000000 := fun hlt => by
      have h1 := flat_le ls (k + 1)
      rw [flat_succ ls hlt, List.length_append] at h1
      rw [Int.toNat_natCast, hfk]
      omega
    dsimp only
    repeat' (first | refine rnA ?_ | refine rnS ?_ | refine rnG ?_ | refine rnU ?_ | ((fail_if_success (refine rnKn ?_)); refine rnP ?_ ?_ <;> (intro hq; try (have hq' := hq; simp only [hqs] at hq'))) | refine rkA ?_ | refine rkS ?_ | refine rkF ?_ | refine rkU ?_ | ((fail_if_success (refine rkKn ?_)); refine rkP ?_ ?_ <;> (intro hq; try (have hq' := hq; simp only [hqs] at hq'))) | refine stp ?_ | refine ifT ?_ | refine ifF ?_ | (refine ifQ ?_ ?_ <;> (try (intro hn))) | (refine ifB ?_ ?_ <;> (intro hq; try (have hq' := hq; simp only [hqs] at hq'))))
    · apply ex2 (k + 1)
      apply Exists.intro
      refine ⟨?_, ⟨?_, ?_⟩, .refl, ?_⟩
      rotate_left 3
      (focus exact frA)
      · dsimp only; omega
      · dsimp only; omega
      · dsimp only
        rw [flat_succ ls (by omega), hfk, Int.toNat_natCast]
    · have hkl : k = ls.length := by omega
      have hfa : fs = ls.flatMap (·.1) := by rw [hfk, hkl, flat_all]
      subst hfa hkl
      exact RetO.mk (ot1 rfl rfl (.one (.kosl rfl)) rfl) ⟨.buf, trivial⟩
instance {c k : Nat} {ls : List (List Nat × Bool)} {ex : Bool} : OC Tryz.prog 180 [pieces ls ex] [] [(c, k)] ((ls.flatMap (·.1)).length ≤ 1000000000 ∧ ls.length ≤ 1000000000)
    (.o (.osl c (k + ls.length) 1 0 (ls.flatMap (·.1)).length)) [(c, (k + (ls.length + 1), some (.buf 5 1 ((ls.flatMap (·.1)).map fun n : Nat => [PVal.k .u8 (n : Int)]))))] := ⟨fun h => (concat_c ls ex h).fresh1 c k⟩
end Go.Proofs.YtclcfjejpogdlaaGreat.Sh
namespace Go.Proofs.YtclcfjejpogdlaaGreat.Sh
open Go Go.RowKit Go.Aw Go.Aw.Sha
set_option linter.unusedVariables false
set_option linter.unusedSimpArgs false
set_option maxRecDepth 8000
abbrev br (n : Nat) : List PVal := [PVal.k .u8 (n : Int)]
theorem padded_c (ls : List (List Nat × Bool)) (ex : Bool) (h : (ls.flatMap (·.1)).length ≤ 500000000 ∧ ls.length ≤ 1000000000) :
    PCall Tryz.prog 85 [pieces ls ex] (bytesN (pad (ls.flatMap (·.1))) false) := by
  refine pcall_of Tryz.func85 rfl (fun w0 F S0 M0 => ?_)
  obtain ⟨hf, hl⟩ := h
  have hf' : (ls.flatMap (·.1)).length ≤ 1000000000 := by omega
  repeat' (first | refine rnAW ?_ | refine rnS ?_ | refine rnG ?_ | refine rnU ?_ | ((fail_if_success (refine rnKn ?_)); refine rnP ?_ ?_ <;> (intro hq; try (have hq' := hq; simp only [hqs] at hq'))) | refine rkAW ?_ | refine rkS ?_ | refine rkF ?_ | refine rkU ?_ | ((fail_if_success (refine rkKn ?_)); refine rkP ?_ ?_ <;> (intro hq; try (have hq' := hq; simp only [hqs] at hq'))) | refine stp ?_ | refine ifT ?_ | refine ifF ?_ | (refine ifQ ?_ ?_ <;> (try (intro hn))) | (refine ifB ?_ ?_ <;> (intro hq; try (have hq' := hq; simp only [hqs] at hq'))))
  generalize hL : (ls.flatMap (·.1)) = L at hf hf' ⊢
  refine aws_loopS (3 :: [3, 15, 16, 17, 18, 19, 20, 21]) [7] (fun (x : Nat × List Nat) => [(3, .o (.osl 7 (0 + (ls.length + 1) + x.1) 1 0 x.2.length))]) (fun x => [(7, (0 + (ls.length + 1) + x.1 + 1, some (.buf 5 1 (x.2.map br))))])
    (fun x => x.1 ≤ zeros L.length ∧ x.2 = L ++ [128] ++ List.replicate x.1 0) (fun x => zeros L.length - x.1) (0, L ++ [128]) ⟨Nat.zero_le _, by simp⟩ (by exact knA) (by exact knA) ?_
  rintro ⟨j, bs⟩ β γ ⟨hj, hb⟩
  simp only at hj hb
  have hz : zeros L.length ≤ 63 := by unfold zeros; omega
  have hbl : bs.length = L.length + 1 + j := by rw [hb]; simp; omega
  have hzj : ((bs.length : Int) % 64 = 56 ∧ j = zeros L.length) ∨ (¬ (bs.length : Int) % 64 = 56 ∧ j < zeros L.length) := by
    rw [hbl]; unfold zeros at hj ⊢; omega
  dsimp only
  repeat' (first | refine rnA ?_ | refine rnS ?_ | refine rnG ?_ | refine rnU ?_ | ((fail_if_success (refine rnKn ?_)); refine rnP ?_ ?_ <;> (intro hq; try (have hq' := hq; simp only [hqs] at hq'))) | refine rkA ?_ | refine rkS ?_ | refine rkF ?_ | refine rkU ?_ | ((fail_if_success (refine rkKn ?_)); refine rkP ?_ ?_ <;> (intro hq; try (have hq' := hq; simp only [hqs] at hq'))) | refine stp ?_ | refine aws_draws [] mixed (by kernel_rfl) ?_ | refine ifT ?_ | refine ifF ?_ | (refine ifQ ?_ ?_ <;> (try (intro hn))) | (refine ifB ?_ ?_ <;> (intro hq; try (have hq' := hq; simp only [hqs] at hq'))))
  · apply ex2 (j + 1)
    apply Exists.intro
    refine ⟨?_, ⟨?_, ?_⟩, .refl, ?_⟩
    rotate_left 3
    (focus exact frA)
    · dsimp only; omega
    · dsimp only; omega
    · dsimp only
      rw [hb, List.replicate_succ']; simp
  · have hjz : j = zeros L.length := by omega
    refine aws_loopS (3 :: [3, 5, 22, 23, 24, 25, 26, 27, 28, 29, 30, 31, 32, 33]) [7] (fun (x : Nat × Int × List Nat) => [(5, .p (.i x.2.1)), (3, .o (.osl 7 (0 + (ls.length + 1) + j + x.1) 1 0 x.2.2.length))]) (fun x => [(7, (0 + (ls.length + 1) + j + x.1 + 1, some (.buf 5 1 (x.2.2.map br))))])
      (fun x => x.1 ≤ 8 ∧ x.2.1 = 7 - (x.1 : Int) ∧ x.2.2 = bs ++ (lenBytes L.length).take x.1) (fun x => 8 - x.1) (0, 7, bs) ⟨Nat.zero_le _, rfl, by simp⟩ (by exact knA) (by exact knA) ?_
    rintro ⟨k, t, cs⟩ β' γ' ⟨hk, ht, hc⟩
    simp only at hk ht hc
    have hll : (lenBytes L.length).length = 8 := by simp [lenBytes]
    have hcl : cs.length = bs.length + k := by rw [hc, List.length_append, List.length_take, hll]; omega
    dsimp only
    repeat' (first | refine rnAW ?_ | refine rnS ?_ | refine rnG ?_ | refine rnU ?_ | ((fail_if_success (refine rnKn ?_)); refine rnP ?_ ?_ <;> (intro hq; try (have hq' := hq; simp only [hqs] at hq'))) | refine rkAW ?_ | refine rkS ?_ | refine rkF ?_ | refine rkU ?_ | ((fail_if_success (refine rkKn ?_)); refine rkP ?_ ?_ <;> (intro hq; try (have hq' := hq; simp only [hqs] at hq'))) | refine stp ?_ | refine ifT ?_ | refine ifF ?_ | (refine ifQ ?_ ?_ <;> (try (intro hn))) | (refine ifB ?_ ?_ <;> (intro hq; try (have hq' := hq; simp only [hqs] at hq'))))
    · apply ex3 (k + 1) (t - 1)
      apply Exists.intro
      refine ⟨?_, ⟨?_, ?_, ?_⟩, .refl, ?_⟩
      rotate_left 4
      (focus exact frA)
      · dsimp only; omega
      · dsimp only; omega
      · dsimp only; omega
      · have e : (8 * t).toNat = 8 * (7 - k) := by omega
        have em : L.length % md .u64 = L.length := Nat.mod_eq_of_lt (by show L.length < 18446744073709551616; omega)
        dsimp only
        rw [hc, e, em, List.append_assoc, List.take_succ_eq_append_getElem (by rw [hll]; omega)]
        simp only [lenBytes, List.getElem_map, List.getElem_range]
        rfl
    · have hk8 : k = 8 := by omega
      refine rt1 rfl rfl (.one (finC_map rfl rfl rfl rfl)) (rs ?_)
      rw [hc, hb, hjz, hk8, List.take_of_length_le (by rw [hll]; omega)]
      rfl
instance {ls : List (List Nat × Bool)} {ex : Bool} : PC Tryz.prog 85 [pieces ls ex] ((ls.flatMap (·.1)).length ≤ 500000000 ∧ ls.length ≤ 1000000000) (bytesN (pad (ls.flatMap (·.1))) false) := ⟨padded_c ls ex⟩
end Go.Proofs.YtclcfjejpogdlaaGreat.Sh
namespace Go.Proofs.YtclcfjejpogdlaaGreat.Sh
open Go Go.RowKit Go.Aw Go.Aw.Sha
set_option linter.unusedVariables false
set_option linter.unusedSimpArgs false
set_option maxRecDepth 8000
abbrev bytesP (l : List Nat) (ex : Bool) : PVal := .sl 1 (l.map br) ex
theorem chunk_c (b : List Nat) (ex : Bool) (n : Int) (h : 1 ≤ n) : PCall Tryz.prog 84 [bytesN b ex, .p (.i n)] (.p (.fnv 179 [.bx [bytesP b ex] 0, .bx [.i n] 0])) := by
  refine pcall_of Tryz.func84 rfl (fun w0 F S0 M0 => ?_)
  repeat' (first | refine rnA ?_ | refine rnS ?_ | refine rnG ?_ | refine rnU ?_ | ((fail_if_success (refine rnKn ?_)); refine rnP ?_ ?_ <;> (intro hq; try (have hq' := hq; simp only [hqs] at hq'))) | refine rkA ?_ | refine rkS ?_ | refine rkF ?_ | refine rkU ?_ | ((fail_if_success (refine rkKn ?_)); refine rkP ?_ ?_ <;> (intro hq; try (have hq' := hq; simp only [hqs] at hq'))) | refine stp ?_ | refine ifT ?_ | refine ifF ?_ | (refine ifQ ?_ ?_ <;> (try (intro hn))) | (refine ifB ?_ ?_ <;> (intro hq; try (have hq' := hq; simp only [hqs] at hq'))))
  · exfalso; omega
  · exact rt1 rfl rfl finS_p rfl
instance {b : List Nat} {ex : Bool} {n : Int} : PC Tryz.prog 84 [bytesN b ex, .p (.i n)] (1 ≤ n) (.p (.fnv 179 [.bx [bytesP b ex] 0, .bx [.i n] 0])) := ⟨chunk_c b ex n⟩
/-- the blocks of a text, n bytes each, the last one maybe less -/
def chunkAt (b : List Nat) (n i : Nat) : List Nat := (b.drop (n * i)).take n
set_option maxHeartbeats 1000000 in
theorem chunks_c (b : List Nat) (ex : Bool) (m : Nat) (h : b.length = 64 * m) (hb : b.length ≤ 1000000000) : ICall Tryz.prog 179 [.bx [bytesP b ex] 0, .bx [.i 64] 0] ((List.range m).map fun i => bytesN (chunkAt b 64 i) true) := by
  refine icall_of Tryz.func179 rfl (fun w0 F S0 M0 I yv hone hY => ?_)
  simp only [List.length_map, List.length_range]
  repeat' (first | refine rnA ?_ | refine rnS ?_ | refine rnG ?_ | refine rnU ?_ | ((fail_if_success (refine rnKn ?_)); refine rnP ?_ ?_ <;> (intro hq; try (have hq' := hq; simp only [hqs] at hq'))) | refine rkA ?_ | refine rkS ?_ | refine rkF ?_ | refine rkU ?_ | ((fail_if_success (refine rkKn ?_)); refine rkP ?_ ?_ <;> (intro hq; try (have hq' := hq; simp only [hqs] at hq'))) | refine stp ?_ | refine ifT ?_ | refine ifF ?_ | (refine ifQ ?_ ?_ <;> (try (intro hn))) | (refine ifB ?_ ?_ <;> (intro hq; try (have hq' := hq; simp only [hqs] at hq'))))
  refine aws_loopS [4, 5, 6, 7, 8, 9, 10, 11, 12, 13, 14, 15, 16, 17, 18, 19, 20, 21, 22, 23, 24, 25, 26, 27, 28, 29, 30] [1000] (fun (x : Nat × Int) => [(4, .p (.i x.2))]) (fun x => [(1000, (1, some (.abs (I x.1))))])
    (fun x => x.1 ≤ m ∧ x.2 = 64 * (x.1 : Int)) (fun x => m - x.1) (0, 0) ⟨Nat.zero_le _, rfl⟩ (by exact knA) (by exact knA) ?_
  rintro ⟨i, t⟩ β γ ⟨hi, ht⟩
  simp only at hi ht
  dsimp only
  repeat' (first | refine rnA ?_ | refine rnS ?_ | refine rnG ?_ | refine rnU ?_ | ((fail_if_success (refine rnKn ?_)); refine rnP ?_ ?_ <;> (intro hq; try (have hq' := hq; simp only [hqs] at hq'))) | refine rkA ?_ | refine rkS ?_ | refine rkF ?_ | refine rkU ?_ | ((fail_if_success (refine rkKn ?_)); refine rkP ?_ ?_ <;> (intro hq; try (have hq' := hq; simp only [hqs] at hq'))) | refine stp ?_ | refine ifT ?_ | refine ifF ?_ | (refine ifQ ?_ ?_ <;> (try (intro hn))) | (refine ifB ?_ ?_ <;> (intro hq; try (have hq' := hq; simp only [hqs] at hq'))))
  · have him : i < m := by omega
    have hdl : (b.drop t.toNat).length = 64 * (m - i) := by rw [List.length_drop, h]; omega
    refine aws_draws [] mixed (by kernel_rfl) ?_
    repeat' (first | refine rk_nil ?_ | refine rkA ?_ | refine rkS ?_ | refine rkF ?_ | refine rkU ?_ | ((fail_if_success (refine rkKn ?_)); refine rkP ?_ ?_ <;> (intro hq; try (have hq' := hq; simp only [hqs] at hq'))))
    repeat' (first | refine rnA ?_ | refine rnS ?_ | refine rnG ?_ | refine rnU ?_ | ((fail_if_success (refine rnKn ?_)); refine rnP ?_ ?_ <;> (intro hq; try (have hq' := hq; simp only [hqs] at hq'))) | refine rkA ?_ | refine rkS ?_ | refine rkF ?_ | refine rkU ?_ | ((fail_if_success (refine rkKn ?_)); refine rkP ?_ ?_ <;> (intro hq; try (have hq' := hq; simp only [hqs] at hq'))) | refine stp ?_ | refine ifT ?_ | refine ifF ?_ | (refine ifQ ?_ ?_ <;> (try (intro hn))) | (refine ifB ?_ ?_ <;> (intro hq; try (have hq' := hq; simp only [hqs] at hq'))))
    refine rn_any (gd_n rfl rfl) rfl (lop_yield (av := bytesN (chunkAt b 64 i) true) (m0 := (1, some (.abs (I i)))) (m1 := (1, some (.abs (I (i + 1))))) rfl rfl (rs ?_) rfl (hY i _ (by simp [him])) rfl) ?_
    · show _ = (b.drop (64 * i)).take 64
      rw [show t.toNat = 64 * i by omega] at hdl ⊢
      congr 1
      simp only [hdl] at *
      omega
    repeat' (first | refine rnA ?_ | refine rnS ?_ | refine rnG ?_ | refine rnU ?_ | ((fail_if_success (refine rnKn ?_)); refine rnP ?_ ?_ <;> (intro hq; try (have hq' := hq; simp only [hqs] at hq'))) | refine rkA ?_ | refine rkS ?_ | refine rkF ?_ | refine rkU ?_ | ((fail_if_success (refine rkKn ?_)); refine rkP ?_ ?_ <;> (intro hq; try (have hq' := hq; simp only [hqs] at hq'))) | refine stp ?_ | refine ifT ?_ | refine ifF ?_ | (refine ifQ ?_ ?_ <;> (try (intro hn))) | (refine ifB ?_ ?_ <;> (intro hq; try (have hq' := hq; simp only [hqs] at hq'))))
    apply ex2 (i + 1)
    apply Exists.intro
    refine ⟨?_, ⟨?_, ?_⟩, .refl, ?_⟩
    rotate_left 3
    (focus exact frA)
    · dsimp only; omega
    · dsimp only; omega
    · dsimp only; omega
  · have him : i = m := by omega
    subst him
    show RetO _ _ _ _ _ .ret _
    exact RetO.mk (res0 rfl rfl) ⟨.abs, trivial⟩
end Go.Proofs.YtclcfjejpogdlaaGreat.Sh
namespace Go.Proofs.YtclcfjejpogdlaaGreat.Sh
open Go Go.RowKit Go.Aw Go.Aw.Sha
set_option linter.unusedVariables false
set_option linter.unusedSimpArgs false
set_option maxRecDepth 8000
theorem pad_len (b : List Nat) : (pad b).length = b.length + 1 + zeros b.length + 8 := by simp [pad, lenBytes]; omega
theorem pad_64 (b : List Nat) : (pad b).length = 64 * ((pad b).length / 64) := by rw [pad_len]; unfold zeros; omega
theorem blocks_succ (P : List Nat) (j : Nat) : blocks P (j + 1) = block (blocks P j) (chunkAt P 64 j) := rfl
theorem blocks_zero (P : List Nat) : firstV = blocks P 0 := rfl
theorem sum_def (b : List Nat) : sum b = digest (blocks (pad b) ((pad b).length / 64)) := rfl
theorem Agr.put' {σ τ : St} {W M : List Nat} {o : Nat} {m : Nat × Option MO} (h : Agr σ W (o :: M) τ) : Agr (σ.put o m) W M (τ.put o m) := ⟨h.env, fun t ht => by
  by_cases e : t = o
  · subst e; simp [St.put]
  · have hb : Nat.beq t o = false := Bool.eq_false_iff.2 (fun k => e (Nat.eq_of_beq_eq_true k))
    have := h.mem t (by simp only [memb, hb, ht, Bool.or_self])
    simp [St.put, e, this]⟩
attribute [local irreducible] pad blocks block sum
theorem sum_c (ls : List (List Nat × Bool)) (ex : Bool) (h : (ls.flatMap (·.1)).length ≤ 500000000 ∧ ls.length ≤ 1000000000) :
    PCall Tryz.prog 19 [pieces ls ex] (.a ((sum (ls.flatMap (·.1))).map bc)) := by
  refine pcall_of Tryz.func19 rfl (fun w0 F S0 M0 => ?_)
  have hp : (pad (ls.flatMap (·.1))).length ≤ 1000000000 := by rw [pad_len]; unfold zeros; omega
  have hp64 := pad_64 (ls.flatMap (·.1))
  have hsum : sum (ls.flatMap (·.1)) = digest (blocks (pad (ls.flatMap (·.1))) ((pad (ls.flatMap (·.1))).length / 64)) := sum_def _
  repeat' (first | refine rnA ?_ | refine rnS ?_ | refine rnG ?_ | refine rnU ?_ | ((fail_if_success (refine rnKn ?_)); refine rnP ?_ ?_ <;> (intro hq; try (have hq' := hq; simp only [hqs] at hq'))) | refine rkA ?_ | refine rkS ?_ | refine rkF ?_ | refine rkU ?_ | ((fail_if_success (refine rkKn ?_)); refine rkP ?_ ?_ <;> (intro hq; try (have hq' := hq; simp only [hqs] at hq'))) | refine stp ?_ | refine ifT ?_ | refine ifF ?_ | (refine ifQ ?_ ?_ <;> (try (intro hn))) | (refine ifB ?_ ?_ <;> (intro hq; try (have hq' := hq; simp only [hqs] at hq'))))
  generalize hP : pad (ls.flatMap (·.1)) = P at hp hp64 hsum ⊢
  refine aws_block ?_
  refine aws_range (ι := V8) [9, 4, 10, 11, 12] [3] (fun v => [(3, (1, some (.box 159 (v8 v))))]) (fun j v => v = blocks P j) firstV rfl inferInstance (chunks_c P false (P.length / 64) hp64 hp) rfl ?_ rfl rfl (fun i => rfl) rfl (blocks_zero P) (by exact knA) ?_ ?_
  · intro x hx
    simp only [List.mem_map] at hx
    obtain ⟨i, _, rfl⟩ := hx
    exact inferInstance
  · intro j x hjx v γ w0 F S0 M0 l R R' hv
    rw [List.getElem?_map] at hjx
    have hj : j < P.length / 64 := by
      by_cases hlt : j < P.length / 64
      · exact hlt
      · rw [List.getElem?_eq_none (by simp; omega)] at hjx; cases hjx
    rw [List.getElem?_range hj] at hjx
    obtain rfl := Option.some.inj hjx
    have hcl : (chunkAt P 64 j).length = 64 := by simp only [chunkAt, List.length_take, List.length_drop]; omega
    have hvo : v.ok := by rw [hv]; exact blocks_ok P j
    obtain ⟨B, hB⟩ : ∃ B, B = block v (chunkAt P 64 j) := ⟨_, rfl⟩
    have hbc : PCall Tryz.prog 86 [.a (v8 v), bytesN (chunkAt P 64 j) true] (.a (v8 B)) := by rw [hB]; exact block_c v _ true hcl hvo
    haveI : PC Tryz.prog 86 [.a (v8 v), bytesN (chunkAt P 64 j) true] True (.a (v8 B)) := ⟨fun _ => hbc⟩
    repeat' (first | refine rnA ?_ | refine rnS ?_ | refine rnG ?_ | refine rnU ?_ | ((fail_if_success (refine rnKn ?_)); refine rnP ?_ ?_ <;> (intro hq; try (have hq' := hq; simp only [hqs] at hq'))) | refine rkA ?_ | refine rkS ?_ | refine rkF ?_ | refine rkU ?_ | ((fail_if_success (refine rkKn ?_)); refine rkP ?_ ?_ <;> (intro hq; try (have hq' := hq; simp only [hqs] at hq'))) | refine stp ?_ | refine ifT ?_ | refine ifF ?_ | (refine ifQ ?_ ?_ <;> (try (intro hn))) | (refine ifB ?_ ?_ <;> (intro hq; try (have hq' := hq; simp only [hqs] at hq'))))
    refine ⟨rfl, rfl, ?_⟩
    repeat' (first | refine rnA ?_ | refine rnS ?_ | refine rnG ?_ | refine rnU ?_ | ((fail_if_success (refine rnKn ?_)); refine rnP ?_ ?_ <;> (intro hq; try (have hq' := hq; simp only [hqs] at hq'))) | refine rkA ?_ | refine rkS ?_ | refine rkF ?_ | refine rkU ?_ | ((fail_if_success (refine rkKn ?_)); refine rkP ?_ ?_ <;> (intro hq; try (have hq' := hq; simp only [hqs] at hq'))) | refine stp ?_ | refine ifT ?_ | refine ifF ?_ | (refine ifQ ?_ ?_ <;> (try (intro hn))) | (refine ifB ?_ ?_ <;> (intro hq; try (have hq' := hq; simp only [hqs] at hq'))))
    refine ⟨rfl, B, _, ?_, .refl, Fr'.mk ?_ (by exact knA) (by exact knA)⟩
    rotate_left 1
    · repeat' (first | exact Agr.refl | refine Agr.appg rfl rfl ?_ | refine Agr.appgn rfl ?_ | refine Agr.set rfl ?_ | refine Agr.put rfl ?_ | refine Agr.put' ?_ | refine Agr.fr ?_ (memb_sub rfl) (memb_sub rfl) rfl rfl)
    · show B = blocks P (j + 1)
      rw [blocks_succ, ← hv, hB]
  · intro v γ hv
    simp only [List.length_map, List.length_range] at hv
    repeat' (first | refine rnA ?_ | refine rnS ?_ | refine rnG ?_ | refine rnU ?_ | ((fail_if_success (refine rnKn ?_)); refine rnP ?_ ?_ <;> (intro hq; try (have hq' := hq; simp only [hqs] at hq'))) | refine rkA ?_ | refine rkS ?_ | refine rkF ?_ | refine rkU ?_ | ((fail_if_success (refine rkKn ?_)); refine rkP ?_ ?_ <;> (intro hq; try (have hq' := hq; simp only [hqs] at hq'))) | refine stp ?_ | refine ifT ?_ | refine ifF ?_ | (refine ifQ ?_ ?_ <;> (try (intro hn))) | (refine ifB ?_ ?_ <;> (intro hq; try (have hq' := hq; simp only [hqs] at hq'))))
    refine rc1 rfl rfl rfl rfl rfl (by simp [digest]) finL_p ?_
    rw [hsum, ← hv]
end Go.Proofs.YtclcfjejpogdlaaGreat.Sh
namespace Go.Proofs.YtclcfjejpogdlaaGreat.Sh
open Go Go.RowKit Go.Aw Go.Aw.Sha
set_option linter.unusedVariables false
set_option linter.unusedSimpArgs false
set_option maxRecDepth 8000
attribute [local irreducible] sum
theorem sum1_c (l : List Nat) (e1 e : Bool) (h : l.length ≤ 500000000) : PCall Tryz.prog 19 [.p (.sl 1 [[bytesP l e1]] e)] (.a ((sum l).map bc)) := by
  have := sum_c [(l, e1)] e ⟨by simpa using h, by simp⟩
  rwa [show ([(l, e1)] : List (List Nat × Bool)).flatMap (·.1) = l by simp] at this
end Go.Proofs.YtclcfjejpogdlaaGreat.Sh
