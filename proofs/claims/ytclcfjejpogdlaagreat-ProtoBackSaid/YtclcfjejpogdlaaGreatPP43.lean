/- messages in plain Lean: there and back, in one way alone; messages, the law ProtoBack: there and back -/
import Derived.Test.YtclcfjejpogdlaaGreatPP39
import Derived.Test.YtclcfjejpogdlaaGreatPP41
import Derived.Test.YtclcfjejpogdlaaGreatPP42
import Derived.Test.YtclcfjejpogdlaaGreatPP27
import Derived.Test.YtclcfjejpogdlaaGreatPP24
namespace Go.Proofs.YtclcfjejpogdlaaGreat.Wi
open Go Go.RowKit Go.Aw Go.Aw.Cart Go.Aw.Tree Go.Proofs.YtclcfjejpogdlaaGreat.Ca Go.Proofs.YtclcfjejpogdlaaGreat.Rg
set_option linter.unusedVariables false
set_option linter.unusedSimpArgs false
theorem dig_back {d : List Nat} (h : d.length = 32) (q : List Nat) : digS (d ++ q, 0) = (d, (q, 0)) := by
  have e : takeS 32 (d ++ q, 0) = (d, (q, 0)) := by
    unfold takeS
    rw [if_neg (by simp), if_neg (by rw [List.length_append]; omega)]
    dsimp only
    rw [List.take_append_of_le_length (by omega), List.drop_append_of_le_length (by omega), List.take_of_length_le (by omega), List.drop_of_length_le (by omega), List.nil_append]
  simp only [digS, bindS, pureS, e, h, if_true]
theorem hd_back {m : Msg} (h : MOk m) (q : List Nat) : hdS ((headM m).flatMap numI ++ q, 0) = ((m.kind, m.frm, m.to, m.ses, m.part), (q, 0)) := by
  have k1 := h.kind
  have k2 := h.frm
  have k3 := h.to
  have k4 := h.ses
  have k5 := h.part
  have e : (headM m).flatMap numI ++ q = numI m.kind ++ (numI m.frm ++ (numI m.to ++ (numI m.ses ++ (numI m.part ++ q)))) := by
    unfold headM
    simp only [List.flatMap_cons, List.flatMap_nil, List.append_nil, List.append_assoc]
  rw [e]
  simp only [hdS, bindS, pureS, smallI_back (n := m.kind) (most := 7) (by omega) (by omega) (by decide), smallI_back (n := m.frm) (most := 8) (by omega) (by omega) (by decide), smallI_back (n := m.to) (most := 8) (by omega) (by omega) (by decide), smallI_back (n := m.ses) (most := 1099511627776) (by omega) (by omega) (by decide), smallI_back (n := m.part) (most := 7) (by omega) (by omega) (by decide)]
theorem lst_back {m : Msg} (h : MOk m) (hg : ∀ d ∈ m.dgs, d.length = 32) (q : List Nat) : lstS (numB m.pls.length ++ (m.pls.flatMap numI ++ (numB m.dgs.length ++ (m.dgs.flatMap id ++ q))), 0) = ((m.pls, m.dgs), (q, 0)) := by
  have k1 := h.pl
  have k2 := h.dl
  have a1 := all_back (P := smallS 20) (enc := numI) (L := m.pls) (fun a ha q => smallI_back (h.pls a ha).1 (h.pls a ha).2 (by decide) q) (numB m.dgs.length ++ (m.dgs.flatMap id ++ q)) m.pls.length (Nat.le_refl _)
  have a2 := all_back (P := digS) (enc := (id : List Nat → List Nat)) (L := m.dgs) (fun a ha q => dig_back (hg a ha) q) q m.dgs.length (Nat.le_refl _)
  rw [List.take_length, List.drop_length, List.flatMap_nil, List.nil_append] at a1 a2
  exact lst_at (small_back (x := m.pls.length) (most := 16) (by omega) (by decide) _) a1 (small_back (x := m.dgs.length) (most := 16) (by omega) (by decide) _) a2
theorem pre_back {m : Msg} (h : MOk m) (hd : m.dig.length = 32) (hg : ∀ d ∈ m.dgs, d.length = 32) (q : List Nat) : preS (msgH m ++ q, 0) = ({ m with kds := [] }, (q, 0)) := by
  have e1 := hd_back h ((if m.kind = 1 then m.dig else []) ++ (numB m.pls.length ++ (m.pls.flatMap numI ++ (numB m.dgs.length ++ (m.dgs.flatMap id ++ q)))))
  have e2 : dgS m.kind ((if m.kind = 1 then m.dig else []) ++ (numB m.pls.length ++ (m.pls.flatMap numI ++ (numB m.dgs.length ++ (m.dgs.flatMap id ++ q)))), 0) = (m.dig, (numB m.pls.length ++ (m.pls.flatMap numI ++ (numB m.dgs.length ++ (m.dgs.flatMap id ++ q))), 0)) := by
    unfold dgS
    by_cases k : m.kind = 1
    · rw [if_pos k, if_pos k]; exact dig_back hd _
    · rw [if_neg k, if_neg k]
      have : m.dig = zeroD := by
        have := h.own
        have e : m.dig = (ownM m).dig := by rw [← this]
        rw [e]; unfold ownM; dsimp only; rw [if_neg k]
      rw [this]; rfl
  have e3 := lst_back h hg q
  have e : msgH m ++ q = (headM m).flatMap numI ++ ((if m.kind = 1 then m.dig else []) ++ (numB m.pls.length ++ (m.pls.flatMap numI ++ (numB m.dgs.length ++ (m.dgs.flatMap id ++ q))))) := by
    unfold msgH
    simp only [List.append_assoc]
  rw [e]
  simp only [preS, bindS, pureS, e1, e2, e3]
theorem kds_again (m : Msg) : ({ ({ m with kds := [] } : Msg) with kds := m.kds } : Msg) = m := rfl
theorem mread_back {m : Msg} (h : MIn m) (hr : rightM m = true) : readM (msgB m) = (m, 0) := by
  have ok := right_ok hr
  have e := pre_back ok h.d32 (fun d hd => (h.dg d hd).1) (listB m.kds)
  have eL := readL_back (keys_iff.1 ok.kds) fun k hk => (h.kd k hk).vec
  unfold readM
  rw [show msgB m = msgH m ++ listB m.kds from rfl, e]
  dsimp only
  rw [eL, kds_again, hr, if_neg (by simp)]
theorem hd_can {l : List Nat} {x : Int × Int × Int × Int × Int} {rest : List Nat} (hb : okB l) (h : hdS (l, 0) = (x, (rest, 0))) : l = numI x.1 ++ (numI x.2.1 ++ (numI x.2.2.1 ++ (numI x.2.2.2.1 ++ (numI x.2.2.2.2 ++ rest)))) := by
  unfold hdS at h
  obtain ⟨a1, m1, h1, g1⟩ := bind_inv (fun _ => par_bind (par_small _) fun _ => par_bind (par_small _) fun _ => par_bind (par_small _) fun _ => par_bind (par_small _) fun _ => par_pure _) h
  clear h
  obtain ⟨rfl, -, -⟩ := small_can _ _ _ hb h1
  have hb1 := okB_r hb
  clear hb
  obtain ⟨a2, m2, h2, g2⟩ := bind_inv (fun _ => par_bind (par_small _) fun _ => par_bind (par_small _) fun _ => par_bind (par_small _) fun _ => par_pure _) g1
  clear g1
  obtain ⟨rfl, -, -⟩ := small_can _ _ _ hb1 h2
  have hb2 := okB_r hb1
  clear hb1
  obtain ⟨a3, m3, h3, g3⟩ := bind_inv (fun _ => par_bind (par_small _) fun _ => par_bind (par_small _) fun _ => par_pure _) g2
  clear g2
  obtain ⟨rfl, -, -⟩ := small_can _ _ _ hb2 h3
  have hb3 := okB_r hb2
  clear hb2
  obtain ⟨a4, m4, h4, g4⟩ := bind_inv (fun _ => par_bind (par_small _) fun _ => par_pure _) g3
  clear g3
  obtain ⟨rfl, -, -⟩ := small_can _ _ _ hb3 h4
  have hb4 := okB_r hb3
  clear hb3
  obtain ⟨a5, m5, h5, g5⟩ := bind_inv (fun _ => par_pure _) g4
  clear g4
  obtain ⟨rfl, -, -⟩ := small_can _ _ _ hb4 h5
  obtain ⟨rfl, rfl⟩ := pure_inv g5
  rfl
theorem dig_can : Can digS (id : List Nat → List Nat) := fun l y rest hb h => by
  obtain ⟨t, m, h1, h2⟩ := bind_inv (fun _ => par_pure _) h
  obtain ⟨rfl, hl⟩ := take_inv h1
  obtain ⟨rfl, rfl⟩ := pure_inv h2
  rw [if_pos hl]; rfl
theorem lst_can {l : List Nat} {x : List Int × List (List Nat)} {rest : List Nat} (hb : okB l) (h : lstS (l, 0) = (x, (rest, 0))) : l = numB x.1.length ++ (x.1.flatMap numI ++ (numB x.2.length ++ (x.2.flatMap id ++ rest))) := by
  unfold lstS at h
  obtain ⟨a1, m1, h1, g1⟩ := bind_inv (fun n => par_bind (par_all (par_small _) _) fun P => par_bind (par_small _) fun k => par_bind (par_all par_dig _) fun G => par_pure _) h
  clear h
  obtain ⟨rfl, -, -⟩ := small_can _ _ _ hb h1
  have hb1 := okB_r hb
  clear hb
  obtain ⟨a2, m2, h2, g2⟩ := bind_inv (fun P => par_bind (par_small _) fun k => par_bind (par_all par_dig _) fun G => par_pure _) g1
  clear g1
  have l2 : a2.length = a1.toNat := by have := all_len (smallS 20) a1.toNat (m1, 0); rw [h2] at this; exact this
  obtain rfl := all_can (par_small 20) (B := numI) (fun l y rest hb h => (small_can l y rest hb h).1) _ _ _ _ hb1 h2
  have hb2 := okB_r hb1
  clear hb1
  obtain ⟨a3, m3, h3, g3⟩ := bind_inv (fun k => par_bind (par_all par_dig _) fun G => par_pure _) g2
  clear g2
  obtain ⟨rfl, -, -⟩ := small_can _ _ _ hb2 h3
  have hb3 := okB_r hb2
  clear hb2
  obtain ⟨a4, m4, h4, g4⟩ := bind_inv (fun G => par_pure _) g3
  clear g3
  have l4 : a4.length = a3.toNat := by have := all_len digS a3.toNat (m3, 0); rw [h4] at this; exact this
  obtain rfl := all_can par_dig dig_can _ _ _ _ hb3 h4
  obtain ⟨rfl, rfl⟩ := pure_inv g4
  dsimp only
  rw [numI_toNat l2, numI_toNat l4]
theorem pre_can {l : List Nat} {x : Msg} {rest : List Nat} (hb : okB l) (h : preS (l, 0) = (x, (rest, 0))) : l = msgH x ++ rest ∧ x.kds = [] := by
  unfold preS at h
  obtain ⟨a1, m1, h1, g1⟩ := bind_inv (fun _ => par_bind (par_dg _) fun _ => par_bind par_lst fun _ => par_pure _) h
  clear h
  have e1 := hd_can hb h1
  have hb1 : okB m1 := by rw [e1] at hb; exact okB_r (okB_r (okB_r (okB_r (okB_r hb))))
  obtain ⟨a2, m2, h2, g2⟩ := bind_inv (fun _ => par_bind par_lst fun _ => par_pure _) g1
  clear g1
  have e2 : m1 = (if a1.1 = 1 then a2 else []) ++ m2 := by
    unfold dgS at h2
    by_cases k : a1.1 = 1
    · rw [if_pos k] at h2 ⊢
      exact dig_can _ _ _ hb1 h2
    · rw [if_neg k] at h2 ⊢
      obtain ⟨rfl, rfl⟩ := pure_inv h2
      rfl
  have hb2 : okB m2 := by rw [e2] at hb1; exact okB_r hb1
  obtain ⟨a3, m3, h3, g3⟩ := bind_inv (fun _ => par_pure _) g2
  clear g2
  have e3 := lst_can hb2 h3
  obtain ⟨rfl, rfl⟩ := pure_inv g3
  refine ⟨?_, rfl⟩
  rw [e1, e2, e3]
  unfold msgH headM
  dsimp only
  simp only [List.flatMap_cons, List.flatMap_nil, List.append_nil, List.append_assoc]
theorem readM_cases (b : List Nat) : ((readM b).1 = zeroM ∧ (readM b).2 = 3) ∨ ((preS (b, 0)).2.2 = 0 ∧ (readL (preS (b, 0)).2.1).2 = 0 ∧ rightM { (preS (b, 0)).1 with kds := (readL (preS (b, 0)).2.1).1 } = true ∧ readM b = ({ (preS (b, 0)).1 with kds := (readL (preS (b, 0)).2.1).1 }, 0)) := by
  unfold readM
  split
  · exact .inl ⟨rfl, rfl⟩
  · rename_i hn
    refine .inr ⟨?_, ?_, ?_, rfl⟩
    · exact Decidable.not_not.1 fun q => hn (.inl q)
    · exact Decidable.not_not.1 fun q => hn (.inr (.inl q))
    · cases q : rightM { (preS (b, 0)).1 with kds := (readL (preS (b, 0)).2.1).1 } with
      | true => rfl
      | false => exact absurd (.inr (.inr q)) hn
section
attribute [local irreducible] preS readL
theorem mread_can {b : List Nat} (hb : okB b) (h : (readM b).2 = 0) : b = msgB (readM b).1 ∧ rightM (readM b).1 = true := by
  rcases readM_cases b with ⟨-, k⟩ | ⟨k1, k2, k3, k4⟩
  · rw [k] at h; exact absurd h (by decide)
  · rw [k4]
    have e : preS (b, 0) = ((preS (b, 0)).1, ((preS (b, 0)).2.1, 0)) := Prod.ext rfl (Prod.ext rfl k1)
    obtain ⟨h1, h2⟩ := pre_can hb e
    have hbr : okB (preS (b, 0)).2.1 := by rw [h1] at hb; exact okB_r hb
    have eL : readL (preS (b, 0)).2.1 = ((readL (preS (b, 0)).2.1).1, 0) := Prod.ext rfl k2
    obtain ⟨h3, h4⟩ := readL_can hbr eL
    refine ⟨?_, k3⟩
    show b = msgH (preS (b, 0)).1 ++ listB (readL (preS (b, 0)).2.1).1
    rw [← h3]; exact h1
theorem zeroM_in : MIn zeroM := ⟨rfl, fun c hc => by rw [List.eq_of_mem_replicate hc]; decide, by decide, by decide, fun d hd => (by cases hd), by decide, fun d hd => (by cases hd), fun d hd => (by cases hd)⟩
theorem zeroM_no : rightM zeroM = false := by
  have : bodyM zeroM = false := by simp [bodyM, zeroM]
  unfold rightM
  rw [this]; rfl
theorem pre_in {b : List Nat} (hb : okB b) (hl : b.length ≤ 1000000000) : (preS (b, 0)).1.dig.length = 32 ∧ okB (preS (b, 0)).1.dig ∧ (preS (b, 0)).1.pls.length ≤ 16 ∧ (preS (b, 0)).1.dgs.length ≤ 16 ∧ ∀ d ∈ (preS (b, 0)).1.dgs, d.length = 32 ∧ okB d := by
  have o0 : rdOk (b, 0) := ⟨hb, hl⟩
  obtain ⟨x, r1, h1⟩ := pr_ex (hdS (b, 0))
  have o1 : rdOk r1 := by have := par_hd.rd o0; rwa [h1] at this
  obtain ⟨d, r2, h2⟩ := pr_ex (dgS x.1 r1)
  have o2 : rdOk r2 := by have := (par_dg x.1).rd o1; rwa [h2] at this
  have f1 := dgS_fit x.1 r1 o1
  rw [h2] at f1
  have f2 := lst_fit r2 o2
  have e : preS (b, 0) = (⟨x.1, x.2.1, x.2.2.1, x.2.2.2.1, x.2.2.2.2, d, (lstS r2).1.1, (lstS r2).1.2, []⟩, (lstS r2).2) := by
    simp only [preS, bindS, pureS, h1, h2]
  rw [e]
  exact ⟨f1.1, f1.2, f2.1, f2.2.1, f2.2.2⟩
theorem readM_in {b : List Nat} (hb : okB b) (hl : b.length ≤ 1000000000) : MIn (readM b).1 := by
  rcases readM_cases b with ⟨k, -⟩ | ⟨-, -, -, k4⟩
  · rw [k]; exact zeroM_in
  · rw [k4]
    obtain ⟨f1, f2, f3, f4, f5⟩ := pre_in hb hl
    have suf := par_pre.suf (b, 0)
    have hbr : okB (preS (b, 0)).2.1 := fun c hc => hb c (suf.subset hc)
    have hlr : (preS (b, 0)).2.1.length ≤ 1000000000 := Nat.le_trans suf.length_le hl
    obtain ⟨-, g1, g2⟩ := readL_ok (preS (b, 0)).2.1 hbr hlr
    exact ⟨f1, f2, by show (preS (b, 0)).1.pls.length ≤ _; omega, by show (preS (b, 0)).1.dgs.length ≤ _; omega, f5, by show (readL (preS (b, 0)).2.1).1.length ≤ _; omega, fun k hk => (g2 k hk).1, fun k hk => by have := (g2 k hk).2; omega⟩
end
section
attribute [local irreducible] preS readL readM listB msgH rightM
/-- nothing stands behind a message -/
theorem mread_tail {m : Msg} (h : MIn m) (hr : rightM m = true) {q : List Nat} (hq : okB (msgB m ++ q)) (hl : (msgB m ++ q).length ≤ 1000000000) (h0 : (readM (msgB m ++ q)).2 = 0) : q = [] := by
  have ok := right_ok hr
  have e := pre_back ok h.d32 (fun d hd => (h.dg d hd).1) (listB m.kds ++ q)
  have eb : msgB m ++ q = msgH m ++ (listB m.kds ++ q) := by unfold msgB; rw [List.append_assoc]
  rcases readM_cases (msgB m ++ q) with ⟨-, k⟩ | ⟨-, k2, -, -⟩
  · rw [k] at h0; exact absurd h0 (by decide)
  · rw [eb, e] at k2
    dsimp only at k2
    rw [eb] at hq
    have hbr : okB (listB m.kds ++ q) := okB_r hq
    have eL : readL (listB m.kds ++ q) = ((readL (listB m.kds ++ q)).1, 0) := Prod.ext rfl k2
    obtain ⟨h3, h4⟩ := readL_can hbr eL
    have hlr : (listB m.kds ++ q).length ≤ 1000000000 := by rw [eb, List.length_append] at hl; omega
    obtain ⟨-, -, g2⟩ := readL_ok _ hbr hlr
    have b1 := list_back (keys_iff.1 ok.kds) (fun k hk => (h.kd k hk).vec) q
    have b2 := list_back (keys_iff.1 h4) (fun k hk => (g2 k hk).1.vec) []
    rw [List.append_nil, ← h3, b1] at b2
    have := congrArg (fun x => x.2.1) b2
    exact this
theorem readM_err {b : List Nat} (h : ¬ (readM b).2 = 0) : readM b = (zeroM, 3) := by
  rcases readM_cases b with ⟨k1, k2⟩ | ⟨-, -, -, k4⟩
  · exact Prod.ext k1 k2
  · rw [k4] at h; exact absurd rfl h
theorem mread_more {m : Msg} (h : MIn m) (hr : rightM m = true) (hq : okB (msgB m ++ [0])) (hl : (msgB m ++ [0]).length ≤ 1000000000) : readM (msgB m ++ [0]) = (zeroM, 3) := readM_err fun h0 => by
  have := mread_tail h hr hq hl h0
  cases this
theorem mread_cut {m : Msg} (h : MIn m) (hr : rightM m = true) (hb : okB (msgB m)) (hl : (msgB m).length ≤ 1000000000) {k : Nat} (hk : k < (msgB m).length) : readM ((msgB m).take k) = (zeroM, 3) := readM_err fun h0 => by
  have hbt : okB ((msgB m).take k) := fun c hc => hb c (List.mem_of_mem_take hc)
  have hlt : ((msgB m).take k).length ≤ 1000000000 := by rw [List.length_take]; omega
  obtain ⟨h1, h2⟩ := mread_can hbt h0
  have hin := readM_in hbt hlt
  generalize (readM ((msgB m).take k)).1 = y at h1 h2 hin
  have e : msgB y ++ (msgB m).drop k = msgB m := by rw [← h1, List.take_append_drop]
  have hz : (readM (msgB y ++ (msgB m).drop k)).2 = 0 := by rw [e, mread_back h hr]
  have := mread_tail hin h2 (by rw [e]; exact hb) (by rw [e]; exact hl) hz
  have hd : ((msgB m).drop k).length = 0 := by rw [this]; rfl
  rw [List.length_drop] at hd
  omega
end
theorem msgB_inj {m n : Msg} (h : MIn m) (hr : rightM m = true) (k : MIn n) (kr : rightM n = true) (e : msgB m = msgB n) : m = n := by
  have h1 := mread_back h hr
  rw [e, mread_back k kr] at h1
  exact (Prod.mk.inj h1).1.symm
theorem msgB_ok {m : Msg} (h : MIn m) : okB (msgB m) := by
  unfold msgB msgH
  refine okB_app (okB_app (okB_flat fun n _ => numB_ok _) (okB_app ?_ (okB_app (numB_ok _) (okB_app (okB_flat fun n _ => numB_ok _) (okB_app (numB_ok _) (okB_flat fun d hd => (h.dg d hd).2)))))) (listB_ok fun k hk => (h.kd k hk).key)
  split
  · exact h.dok
  · exact fun c hc => by cases hc
theorem msgB_le {m : Msg} (h : MIn m) (hr : rightM m = true) : (msgB m).length ≤ 60000000 := by
  have ok := right_ok hr
  have h1 := kdI_le ok.kds h.kd
  have h2 := nums_le (headM m)
  have h3 := nums_le m.pls
  have h4 := digs_le (l := m.dgs) fun d hd => (h.dg d hd).1
  have h5 := numB_le m.pls.length
  have h6 := numB_le m.dgs.length
  have h7 : (if m.kind = 1 then m.dig else []).length ≤ 32 := by
    split
    · rw [h.d32]; exact Nat.le_refl _
    · simp
  have h8 : (headM m).length = 5 := rfl
  have h9 := ok.pl
  have h10 := ok.dl
  unfold msgB msgH
  simp only [List.length_append]
  omega
end Go.Proofs.YtclcfjejpogdlaaGreat.Wi
namespace Go.Proofs.YtclcfjejpogdlaaGreat.Wi
open Go Go.RowKit Go.Aw Go.Aw.Cart Go.Aw.Tree Go.Proofs.YtclcfjejpogdlaaGreat.Ca Go.Proofs.YtclcfjejpogdlaaGreat.Rg
set_option linter.unusedVariables false
set_option linter.unusedSimpArgs false
set_option maxRecDepth 8000
set_option maxHeartbeats 4000000
/-- what Go can hold -/
structure MGo (m : Msg) : Prop where
  d32 : m.dig.length = 32
  dok : okB m.dig
  pl : m.pls.length ≤ 9223372036854775807
  dl : m.dgs.length ≤ 9223372036854775807
  dg : ∀ d ∈ m.dgs, d.length = 32 ∧ okB d
  kl : m.kds.length ≤ 9223372036854775807
  kd : ∀ k ∈ m.kds, KdI k
def greatM (m : Msg) : Bool := decide (60 < (m.pls.length : Int)) || (decide (60 < (m.dgs.length : Int)) || greatL m.kds)
theorem min_of {m : Msg} (h : MGo m) (hg : greatM m = false) : MIn m ∧ m.pls.length ≤ 60 ∧ m.dgs.length ≤ 60 ∧ greatL m.kds = false := by
  unfold greatM at hg
  rw [Bool.or_eq_false_iff, Bool.or_eq_false_iff, decide_eq_false_iff_not, decide_eq_false_iff_not] at hg
  obtain ⟨h1, h2, h3⟩ := hg
  obtain ⟨g1, g2⟩ := greatL_no h3
  exact ⟨⟨h.d32, h.dok, by omega, by omega, h.dg, by omega, h.kd, fun k hk => by have := (g2 k hk).2; omega⟩, by omega, by omega, h3⟩
/-- what hangs on no block: a struct beside a value -/
theorem rvm_sl0 {es : Nat} {ex : Bool} : ∀ μ X Y v, AC.holds μ X (.p (.sl es [] ex)) v → AC.holds μ Y (.p (.sl es [] ex)) v := by
  rintro μ X Y v ⟨base, cap, h1, h2, h3, h4, h5⟩
  refine ⟨base, cap, h1, h2, h3, h4, ?_⟩
  cases base with
  | none => exact h5
  | some ad => exact .inl rfl
theorem rvm_t2 {cs : List AC} {c : AC} (h : ∀ x ∈ cs, ∀ μ X Y v, AC.holds μ X x v → AC.holds μ Y x v) (k : ∀ μ X Y v, AC.holds μ X c v → AC.holds μ Y c v) : RV (.tup [.agg cs, .one c]) := by
  rintro μ X Y v ⟨arr, rfl, h1⟩
  refine ⟨arr, rfl, h1.1, fun i q x hq hx => ?_⟩
  have hh := h1.2 i q x hq hx
  match i, hq with
  | 0, hq =>
    obtain rfl := Option.some.inj hq
    obtain ⟨a2, rfl, h2⟩ := hh
    exact ⟨a2, rfl, h2.1, fun j y z hy hz => h y (List.mem_of_getElem? hy) μ X Y z (h2.2 j y z hy hz)⟩
  | 1, hq =>
    obtain rfl := Option.some.inj hq
    exact k μ X Y x hh
theorem rvm_none : RV (.tup [.agg (mL zeroM), .one (.p (.i 3))]) := by
  refine rvm_t2 (fun x hx => ?_) fun _ _ _ _ h => h
  simp only [mL, zeroM, List.mem_append, List.mem_cons, List.mem_map, List.not_mem_nil, or_false] at hx
  rcases hx with rfl | rfl | rfl | rfl | rfl | ⟨n, _, rfl⟩ | rfl | rfl | rfl
  all_goals first | exact rvm_sl0 | exact fun _ _ _ _ h => h
namespace V1
theorem lopC {C : Ctx} {o : Oper} {σ : St} {e : Eff} {ro : Nat → Bool} (h : LOp C o σ e ro := by
    first | (apply lop_bz; (focus rfl); (focus exact inferInstance); (focus exact inferInstance); (focus exact inferInstance); (focus rfl); (focus rfl); (focus rfl)) | (apply lop_lend1; (focus rfl); (focus exact inferInstance); (focus rfl); (focus rfl); (focus rfl); (focus exact (List.length_map ..).symm); (focus exact inferInstance); (focus first | exact True.intro | assumption | rfl | omega | ((repeat' (first | assumption | refine And.intro ?_ ?_ | omega | rfl)); done) | fail); (focus exact rvm_none); (focus rfl)) | exact T4.lopC | fail) : LOp C o σ e ro := h
section steps
variable {C : Ctx} {ops : Array Oper} {o : Oper} {rest : List Oper} {K : St → Prop} {σ : St} {e : Eff} {ro : Nat → Bool} {W : List (Nat × Nat)} {i : Nat}
theorem rnC {d : Nat} (hk : RunN C ops rest K (e.app (some d) σ)) (hg : Guard ops σ o true := by first | exact gd_n rfl rfl | exact gd_t rfl rfl rfl rfl | exact gd_t rfl rfl rfl (by assumption)) (hd : o.dst = some d := by rfl) (h : LOp C o σ e ro := by exact lopC) : RunN C ops (o :: rest) K σ := rn_any hg hd h hk
theorem rkC {d : Nat} (hk : RunK C ops W (i + 1) rest K (e.app (some d) σ)) (hg : Guard ops σ o true := by first | exact gd_n rfl rfl | exact gd_t rfl rfl rfl rfl | exact gd_t rfl rfl rfl (by assumption)) (hd' : o.dst = some d := by rfl) (hd : dOk C o.dst = true := by rfl) (h : LOp C o σ e ro := by exact lopC)
    (hro : ∀ x, ro x = true → okObj ops W i x = true := by first | exact fun _ => ro_none | exact ro_one rfl | exact ro_k1 rfl | exact ro_one (by kernel_rfl) | exact ro_k1 (by kernel_rfl) | exact ro_kIn (by decide)) (hob : ∀ p ∈ e.obj, (i, p.1) ∈ W := by first | exact ob_none | exact ob_one (by decide) | decide) : RunK C ops W i (o :: rest) K σ := rk_wr hg hd' hd h hro hob hk
end steps
end V1
open V1
theorem great26_w (m : Msg) (h : MGo m) : PCall Tryz.prog 23 [mV m] (.p (.b (greatM m))) := by
  refine pcall_of Tryz.func23 rfl (fun w0 F S0 M0 => ?_)
  have h32 : (m.dig.map bcD).length = 32 := by rw [List.length_map]; exact h.d32
  have c1 := pgreat_w m.kds false h.kl
  unfold greatM
  generalize greatL m.kds = G at c1 ⊢
  haveI : PC Tryz.prog 15 [.p (.sl 10 (m.kds.map kR) false)] True (.p (.b G)) := ⟨fun _ => c1⟩
  cases d1 : decide (60 < (m.pls.length : Int)) with
  | true =>
    rw [Bool.true_or]
    as_aux_lemma =>
      repeat' (first | refine rnC ?_ | refine rnSB ?_ | refine rnG ?_ | refine rnU ?_ | ((fail_if_success (refine rnKn ?_)); refine rnP ?_ ?_ <;> (intro hq; try (have hq' := hq; simp only [hqs] at hq'))) | refine rkC ?_ | refine rkSB ?_ | refine rkF ?_ | refine rkU ?_ | ((fail_if_success (refine rkKn ?_)); refine rkP ?_ ?_ <;> (intro hq; try (have hq' := hq; simp only [hqs] at hq'))) | refine stp ?_ | refine ifT ?_ | refine ifF ?_ | (refine ifQ ?_ ?_ <;> (try (intro hn))) | (refine ifB ?_ ?_ <;> (intro hq; try (have hq' := hq; simp only [hqs] at hq'))))
      exact rt1 rfl rfl finS_p rfl
  | false =>
    rw [Bool.false_or]
    cases d2 : decide (60 < (m.dgs.length : Int)) with
    | true =>
      rw [Bool.true_or]
      as_aux_lemma =>
        repeat' (first | refine rnC ?_ | refine rnSB ?_ | refine rnG ?_ | refine rnU ?_ | ((fail_if_success (refine rnKn ?_)); refine rnP ?_ ?_ <;> (intro hq; try (have hq' := hq; simp only [hqs] at hq'))) | refine rkC ?_ | refine rkSB ?_ | refine rkF ?_ | refine rkU ?_ | ((fail_if_success (refine rkKn ?_)); refine rkP ?_ ?_ <;> (intro hq; try (have hq' := hq; simp only [hqs] at hq'))) | refine stp ?_ | refine ifT ?_ | refine ifF ?_ | (refine ifQ ?_ ?_ <;> (try (intro hn))) | (refine ifB ?_ ?_ <;> (intro hq; try (have hq' := hq; simp only [hqs] at hq'))))
        exact rt1 rfl rfl finS_p rfl
    | false =>
      rw [Bool.false_or]
      as_aux_lemma =>
        repeat' (first | refine rnC ?_ | refine rnSB ?_ | refine rnG ?_ | refine rnU ?_ | ((fail_if_success (refine rnKn ?_)); refine rnP ?_ ?_ <;> (intro hq; try (have hq' := hq; simp only [hqs] at hq'))) | refine rkC ?_ | refine rkSB ?_ | refine rkF ?_ | refine rkU ?_ | ((fail_if_success (refine rkKn ?_)); refine rkP ?_ ?_ <;> (intro hq; try (have hq' := hq; simp only [hqs] at hq'))) | refine stp ?_ | refine ifT ?_ | refine ifF ?_ | (refine ifQ ?_ ?_ <;> (try (intro hn))) | (refine ifB ?_ ?_ <;> (intro hq; try (have hq' := hq; simp only [hqs] at hq'))))
        exact rt1 rfl rfl finS_p rfl
theorem asks_w (m : Msg) : PCall Tryz.prog 33 [mV m] (.p (.b (decide (1 ≤ m.kind) && decide (m.kind ≤ 3)))) := by
  refine pcall_of Tryz.func33 rfl (fun w0 F S0 M0 => ?_)
  cases d1 : decide (1 ≤ m.kind) with
  | false =>
    rw [Bool.false_and]
    as_aux_lemma =>
      repeat' (first | refine rnC ?_ | refine rnSB ?_ | refine rnG ?_ | refine rnU ?_ | ((fail_if_success (refine rnKn ?_)); refine rnP ?_ ?_ <;> (intro hq; try (have hq' := hq; simp only [hqs] at hq'))) | refine rkC ?_ | refine rkSB ?_ | refine rkF ?_ | refine rkU ?_ | ((fail_if_success (refine rkKn ?_)); refine rkP ?_ ?_ <;> (intro hq; try (have hq' := hq; simp only [hqs] at hq'))) | refine stp ?_ | refine ifT ?_ | refine ifF ?_ | (refine ifQ ?_ ?_ <;> (try (intro hn))) | (refine ifB ?_ ?_ <;> (intro hq; try (have hq' := hq; simp only [hqs] at hq'))))
      exact rt1 rfl rfl finS_p rfl
  | true =>
    rw [Bool.true_and]
    as_aux_lemma =>
      repeat' (first | refine rnC ?_ | refine rnSB ?_ | refine rnG ?_ | refine rnU ?_ | ((fail_if_success (refine rnKn ?_)); refine rnP ?_ ?_ <;> (intro hq; try (have hq' := hq; simp only [hqs] at hq'))) | refine rkC ?_ | refine rkSB ?_ | refine rkF ?_ | refine rkU ?_ | ((fail_if_success (refine rkKn ?_)); refine rkP ?_ ?_ <;> (intro hq; try (have hq' := hq; simp only [hqs] at hq'))) | refine stp ?_ | refine ifT ?_ | refine ifF ?_ | (refine ifQ ?_ ?_ <;> (try (intro hn))) | (refine ifB ?_ ?_ <;> (intro hq; try (have hq' := hq; simp only [hqs] at hq'))))
      exact rt1 rfl rfl finS_p rfl
end Go.Proofs.YtclcfjejpogdlaaGreat.Wi
