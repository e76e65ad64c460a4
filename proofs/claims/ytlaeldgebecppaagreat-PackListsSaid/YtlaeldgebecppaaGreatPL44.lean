/- packs, the law PackLists: which lists may be, their bytes, and the list of any bytes; bytes as a law's argument; PackLists over what was read -/
import Derived.Test.YtlaeldgebecppaaGreatPL37
import Derived.Test.YtlaeldgebecppaaGreatPL34
import Derived.Test.YtlaeldgebecppaaGreatPL43
import Derived.Test.YtlaeldgebecppaaGreatPL26
namespace Go.Proofs.YtlaeldgebecppaaGreat.Wi
open Go Go.RowKit Go.Aw Go.Aw.Cart Go.Proofs.YtlaeldgebecppaaGreat.Ca
set_option linter.unusedVariables false
set_option linter.unusedSimpArgs false
set_option maxRecDepth 8000
set_option maxHeartbeats 4000000
open WE
theorem readL_fit (b : List Nat) (hb : okB b) (hbl : b.length ≤ 1000000000) : ∃ M f, readL b = (M, f) ∧ (f = 0 ∨ f = 3) ∧ M.length ≤ 2000 ∧ ∀ k ∈ M, KdI k ∧ k.2.2.length ≤ 400 := by
  unfold readL
  split
  · exact ⟨_, _, rfl, .inr rfl, by simp, fun k hk => by cases hk⟩
  · refine ⟨_, _, rfl, .inl rfl, ?_, ?_⟩
    · rw [listS_eq]
      have h1 := many_len kdS (smallS 2000 (b, 0)).2 (smallS 2000 (b, 0)).1.toNat
      have h2 := small_le (most := 2000) (by decide) (b, 0)
      omega
    · rw [listS_eq]
      exact many_all par_kd (Q := fun e => KdI e ∧ e.2.2.length ≤ 400) kd_fit _ ((par_small 2000).rd (r := (b, 0)) ⟨hb, hbl⟩) _
theorem kdW_of {l : List Kd} (hin : ∀ k ∈ l, KdI k) (hk : keysF l = true) : ∀ k ∈ l, KdW k := fun k h => by
  have ho := keys_iff.1 hk
  have hr := ho.cart k h
  exact ⟨(hin k h).key, ho.key k h, (hin k h).vec, (ok_iff.1 hr).few, ok_ents hr (hin k h).vec⟩
theorem packLists_w (l : List Kd) (b : List Nat) (ex : Bool) (hl : l.length ≤ 9223372036854775807) (hin : ∀ k ∈ l, KdI k) (hb : okB b) (hbl : b.length ≤ 9223372036854775807) : PCall Tryz.prog 5 [.p (.sl 10 (l.map kR) ex), .p (.sl 1 (b.map bR) false)] (.p (.b true)) := by
  refine pcall_of Tryz.func5 rfl (fun w0 F S0 M0 => ?_)
  have c0 := pgreat_w l ex hl
  cases hg : greatL l with
  | true =>
    rw [hg] at c0
    haveI : PC Tryz.prog 10 [.p (.sl 10 (l.map kR) ex)] True (.p (.b true)) := ⟨fun _ => c0⟩
    as_aux_lemma =>
      repeat' (first | refine rnC ?_ | refine rnSB ?_ | refine rnG ?_ | refine rnU ?_ | ((fail_if_success (refine rnKn ?_)); refine rnP ?_ ?_ <;> (intro hq; try (have hq' := hq; simp only [hqs] at hq'))) | refine rkC ?_ | refine rkSB ?_ | refine rkF ?_ | refine rkU ?_ | ((fail_if_success (refine rkKn ?_)); refine rkP ?_ ?_ <;> (intro hq; try (have hq' := hq; simp only [hqs] at hq'))) | refine stp ?_ | refine aws_draws [] mixed (by kernel_rfl) ?_ | refine ifT ?_ | refine ifF ?_ | (refine ifQ ?_ ?_ <;> (try (intro hn))) | (refine ifB ?_ ?_ <;> (intro hq; try (have hq' := hq; simp only [hqs] at hq'))))
      exact rt1 rfl rfl finS_p rfl
  | false =>
  rw [hg] at c0
  haveI : PC Tryz.prog 10 [.p (.sl 10 (l.map kR) ex)] True (.p (.b false)) := ⟨fun _ => c0⟩
  obtain ⟨h30, hkd⟩ := greatL_no hg
  by_cases h900 : 900 < b.length
  · have d1 : decide (900 < (b.length : Int)) = true := decide_eq_true (by omega)
    as_aux_lemma =>
      repeat' (first | refine rnC ?_ | refine rnSB ?_ | refine rnG ?_ | refine rnU ?_ | ((fail_if_success (refine rnKn ?_)); refine rnP ?_ ?_ <;> (intro hq; try (have hq' := hq; simp only [hqs] at hq'))) | refine rkC ?_ | refine rkSB ?_ | refine rkF ?_ | refine rkU ?_ | ((fail_if_success (refine rkKn ?_)); refine rkP ?_ ?_ <;> (intro hq; try (have hq' := hq; simp only [hqs] at hq'))) | refine stp ?_ | refine aws_draws [] mixed (by kernel_rfl) ?_ | refine ifT ?_ | refine ifF ?_ | (refine ifQ ?_ ?_ <;> (try (intro hn))) | (refine ifB ?_ ?_ <;> (intro hq; try (have hq' := hq; simp only [hqs] at hq'))))
      exact rt1 rfl rfl finS_p rfl
  have d1 : decide (900 < (b.length : Int)) = false := decide_eq_false (by omega)
  have c1 := asK_w l ex (by omega) hin (fun k hk => by have := (hkd k hk).2; omega)
  haveI : PC Tryz.prog 13 [.p (.sl 10 (l.map kR) ex)] True (.p (.sl 10 (l.map kR) false)) := ⟨fun _ => c1⟩
  have c2 := readAll_w b false hb (by omega)
  have c3 := refReadAll_w b hb (by omega)
  obtain ⟨M, f, hM, hf, hMl, hMk⟩ := readL_fit b hb (by omega)
  rw [hM] at c2 c3
  dsimp only at c2 c3
  haveI : PC Tryz.prog 29 [.p (.sl 1 (b.map bR) false)] True (.tup [.one (.p (.sl 10 (M.map kR) false)), .one (.p (.i f))]) := ⟨fun _ => c2⟩
  have c4 := asK_w M false (by omega) (fun k hk => (hMk k hk).1) (fun k hk => by have := (hMk k hk).2; omega)
  haveI : PC Tryz.prog 13 [.p (.sl 10 (M.map kR) false)] True (.p (.sl 10 (M.map kR) false)) := ⟨fun _ => c4⟩
  have c5 := refSame10_w M false false (by omega) (fun k hk => (hMk k hk).1) (fun k hk => by have := (hMk k hk).2; omega)
  haveI : PC Tryz.prog 15 [.p (.sl 10 (M.map kR) false), .p (.sl 10 (M.map kR) false)] True (.p (.b true)) := ⟨fun _ => c5⟩
  have c6 := pright_w l ex (by omega) hin (fun k hk => by have := (hkd k hk).2; omega)
  have c7 := refRight10_w l false (by omega) hin (fun k hk => by have := (hkd k hk).2; omega)
  clear hMk
  cases hR : keysF l with
  | false =>
    have c8 := writeAll_no l ex hR (by omega) hin (fun k hk => by have := (hkd k hk).2; omega)
    rw [hR] at c6 c7
    haveI : PC Tryz.prog 31 [.p (.sl 10 (l.map kR) ex)] True (.p (.b false)) := ⟨fun _ => c6⟩
    haveI : PC Tryz.prog 32 [.p (.sl 10 (l.map kR) false)] True (.p (.b false)) := ⟨fun _ => c7⟩
    haveI : PC Tryz.prog 28 [.p (.sl 10 (l.map kR) ex)] True (.tup [.one (.p (.sl 1 (([] : List Nat).map bR) false)), .one (.p (.i 3))]) := ⟨fun _ => c8⟩
    clear c0 c1 c2 c4 c5 c6 c7 c8 hin hkd
    rcases hf with rfl | rfl
    · haveI : PC Tryz.prog 30 [.p (.sl 1 (b.map bR) false)] True (.tup [.one (.p (.sl 10 (M.map kR) false)), .one (.p (.b true))]) := ⟨fun _ => c3⟩
      as_aux_lemma =>
        repeat' (first | refine rnC ?_ | refine rnSB ?_ | refine rnG ?_ | refine rnU ?_ | ((fail_if_success (refine rnKn ?_)); refine rnP ?_ ?_ <;> (intro hq; try (have hq' := hq; simp only [hqs] at hq'))) | refine rkC ?_ | refine rkSB ?_ | refine rkF ?_ | refine rkU ?_ | ((fail_if_success (refine rkKn ?_)); refine rkP ?_ ?_ <;> (intro hq; try (have hq' := hq; simp only [hqs] at hq'))) | refine stp ?_ | refine aws_draws [] mixed (by kernel_rfl) ?_ | refine ifT ?_ | refine ifF ?_ | (refine ifQ ?_ ?_ <;> (try (intro hn))) | (refine ifB ?_ ?_ <;> (intro hq; try (have hq' := hq; simp only [hqs] at hq'))))
        exact rt1 rfl rfl finS_p rfl
    · haveI : PC Tryz.prog 30 [.p (.sl 1 (b.map bR) false)] True (.tup [.one (.p (.sl 10 (M.map kR) false)), .one (.p (.b false))]) := ⟨fun _ => c3⟩
      as_aux_lemma =>
        repeat' (first | refine rnC ?_ | refine rnSB ?_ | refine rnG ?_ | refine rnU ?_ | ((fail_if_success (refine rnKn ?_)); refine rnP ?_ ?_ <;> (intro hq; try (have hq' := hq; simp only [hqs] at hq'))) | refine rkC ?_ | refine rkSB ?_ | refine rkF ?_ | refine rkU ?_ | ((fail_if_success (refine rkKn ?_)); refine rkP ?_ ?_ <;> (intro hq; try (have hq' := hq; simp only [hqs] at hq'))) | refine stp ?_ | refine aws_draws [] mixed (by kernel_rfl) ?_ | refine ifT ?_ | refine ifF ?_ | (refine ifQ ?_ ?_ <;> (try (intro hn))) | (refine ifB ?_ ?_ <;> (intro hq; try (have hq' := hq; simp only [hqs] at hq'))))
        exact rt1 rfl rfl finS_p rfl
  | true =>
    have c8 := writeAll_ok l ex hR hin
    have kW := kdW_of hin hR
    have c9 := refWriteAll_w l false (by omega) kW
    have okS : okB (listB l) := listB_ok fun k hk => (hin k hk).key
    rw [hR] at c6 c7
    generalize listB l = S at c8 c9 okS
    haveI : PC Tryz.prog 31 [.p (.sl 10 (l.map kR) ex)] True (.p (.b true)) := ⟨fun _ => c6⟩
    haveI : PC Tryz.prog 32 [.p (.sl 10 (l.map kR) false)] True (.p (.b true)) := ⟨fun _ => c7⟩
    haveI : PC Tryz.prog 28 [.p (.sl 10 (l.map kR) ex)] True (.tup [.one (.p (.sl 1 (S.map bR) false)), .one (.p (.i 0))]) := ⟨fun _ => c8⟩
    haveI : PC Tryz.prog 33 [.p (.sl 10 (l.map kR) false)] True (.p (.sl 1 (S.map bR) false)) := ⟨fun _ => c9⟩
    have dS : decide (S = S) = true := decide_eq_true rfl
    clear c0 c1 c2 c4 c5 c6 c7 c8 c9 hin hkd kW
    rcases hf with rfl | rfl
    · haveI : PC Tryz.prog 30 [.p (.sl 1 (b.map bR) false)] True (.tup [.one (.p (.sl 10 (M.map kR) false)), .one (.p (.b true))]) := ⟨fun _ => c3⟩
      as_aux_lemma =>
        repeat' (first | refine rnC ?_ | refine rnSB ?_ | refine rnG ?_ | refine rnU ?_ | ((fail_if_success (refine rnKn ?_)); refine rnP ?_ ?_ <;> (intro hq; try (have hq' := hq; simp only [hqs] at hq'))) | refine rkC ?_ | refine rkSB ?_ | refine rkF ?_ | refine rkU ?_ | ((fail_if_success (refine rkKn ?_)); refine rkP ?_ ?_ <;> (intro hq; try (have hq' := hq; simp only [hqs] at hq'))) | refine stp ?_ | refine aws_draws [] mixed (by kernel_rfl) ?_ | refine ifT ?_ | refine ifF ?_ | (refine ifQ ?_ ?_ <;> (try (intro hn))) | (refine ifB ?_ ?_ <;> (intro hq; try (have hq' := hq; simp only [hqs] at hq'))))
        exact rt1 rfl rfl finS_p (rb dS.symm)
    · haveI : PC Tryz.prog 30 [.p (.sl 1 (b.map bR) false)] True (.tup [.one (.p (.sl 10 (M.map kR) false)), .one (.p (.b false))]) := ⟨fun _ => c3⟩
      as_aux_lemma =>
        repeat' (first | refine rnC ?_ | refine rnSB ?_ | refine rnG ?_ | refine rnU ?_ | ((fail_if_success (refine rnKn ?_)); refine rnP ?_ ?_ <;> (intro hq; try (have hq' := hq; simp only [hqs] at hq'))) | refine rkC ?_ | refine rkSB ?_ | refine rkF ?_ | refine rkU ?_ | ((fail_if_success (refine rkKn ?_)); refine rkP ?_ ?_ <;> (intro hq; try (have hq' := hq; simp only [hqs] at hq'))) | refine stp ?_ | refine aws_draws [] mixed (by kernel_rfl) ?_ | refine ifT ?_ | refine ifF ?_ | (refine ifQ ?_ ?_ <;> (try (intro hn))) | (refine ifB ?_ ?_ <;> (intro hq; try (have hq' := hq; simp only [hqs] at hq'))))
        exact rt1 rfl rfl finS_p (rb dS.symm)
end Go.Proofs.YtlaeldgebecppaaGreat.Wi
namespace Go.Proofs.YtlaeldgebecppaaGreat.Wi
open Go Go.RowKit Go.Aw Go.Aw.Cart Go.Proofs.YtlaeldgebecppaaGreat.Ca
set_option linter.unusedVariables false
set_option linter.unusedSimpArgs false
theorem u8_of {n : Int} (h : IntKind.u8.min ≤ n ∧ n ≤ IntKind.u8.max) : ((n.toNat : Nat) : Int) = n ∧ n.toNat < 256 := by
  simp only [IntKind.min, IntKind.max, IntKind.signed, IntKind.bits] at h
  simp at h; omega
theorem u8s_map {β : Type} {f : Int → β} {l : List Int} (h : ∀ n ∈ l, IntKind.u8.min ≤ n ∧ n ≤ IntKind.u8.max) : (l.map Int.toNat).map (fun n : Nat => f (n : Int)) = l.map f := by
  rw [List.map_map]
  exact List.map_congr_left fun n hn => by simp only [Function.comp_apply, (u8_of (h n hn)).1]
theorem u8s_ok {l : List Int} (h : ∀ n ∈ l, IntKind.u8.min ≤ n ∧ n ≤ IntKind.u8.max) : okB (l.map Int.toNat) := fun n hn => by
  obtain ⟨m, hm, rfl⟩ := List.mem_map.1 hn
  exact (u8_of (h m hm)).2
theorem rd_bytesP : Reads Tryz.prog 29 (List Nat) (fun b => [.sl 1 (b.map bR) false]) (fun b => okB b ∧ b.length ≤ 9223372036854775807) :=
  (reads_slice (α := Int) (row := fun n => [PVal.k .u8 n]) (ok := fun n => IntKind.u8.min ≤ n ∧ n ≤ IntKind.u8.max) inferInstance inferInstance (by decide) (reads_int inferInstance)).imp' (fun l => l.map Int.toNat)
    (fun l h => by rw [← u8s_map (f := fun n => [PVal.k .u8 n]) h.2]) (fun l h => ⟨u8s_ok h.2, by rw [List.length_map]; simpa [maxLen] using h.1⟩)
theorem packLists_a (l : List Kd) (b : List Nat) (h : l.length ≤ maxLen ∧ ∀ k ∈ l, KdI k) (k : okB b ∧ b.length ≤ 9223372036854775807) : PCall Tryz.prog 5 [argAV false [.sl 10 (l.map fun k => kR k) false], argAV false [.sl 1 (b.map bR) false]] (.p (.b true)) :=
  packLists_w l b false (by simpa [maxLen] using h.1) h.2 k.1 k.2
end Go.Proofs.YtlaeldgebecppaaGreat.Wi
