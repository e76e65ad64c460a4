/- packs: what is written is bytes; packs, the law PackLists: which lists may be, their bytes, and the list of any bytes; bytes as a law's argument; PackLists over what was read; SHA-256 in plain Lean, over natural numbers. Nothing here speaks of a program.; SHA-256, the program's: turning words, the constants.; SHA-256, the program's: the words of a block. -/
import Derived.Test.YtclcfjejpogdlaaGreatIB25
import Derived.Test.YtclcfjejpogdlaaGreatIB23
import Derived.Test.YtclcfjejpogdlaaGreatIB22
import Derived.Test.YtclcfjejpogdlaaGreatIB04
import Derived.Test.YtclcfjejpogdlaaGreatIB07
namespace Go.Proofs.YtclcfjejpogdlaaGreat.Wi
open Go Go.RowKit Go.Aw Go.Aw.Cart Go.Proofs.YtclcfjejpogdlaaGreat.Ca
set_option linter.unusedVariables false
set_option linter.unusedSimpArgs false
theorem okB_app {a b : List Nat} (ha : okB a) (hb : okB b) : okB (a ++ b) := fun c hc => (List.mem_append.1 hc).elim (ha c) (hb c)
theorem okB_flat {α : Type} {f : α → List Nat} {l : List α} (h : ∀ x ∈ l, okB (f x)) : okB (l.flatMap f) := fun c hc => by
  obtain ⟨x, hx, hc⟩ := List.mem_flatMap.1 hc
  exact h x hx c hc
theorem numB_ok (x : Nat) : okB (numB x) := fun c hc => by
  rcases List.mem_cons.1 hc with rfl | h
  · have := beF_le 8 x
    show (beF 8 x).length < 256
    omega
  · exact beF_byte 8 x c h
theorem cartB_ok (c : Crt) : okB (cartB c) := by
  refine okB_app (okB_flat fun n _ => numB_ok _) (okB_app (numB_ok _) (okB_flat fun e _ => ?_))
  exact okB_app (numB_ok _) (okB_app (numB_ok _) (okB_app (numB_ok _) (numB_ok _)))
theorem listB_ok {l : List Kd} (h : ∀ k ∈ l, okB k.1) : okB (listB l) :=
  okB_app (numB_ok _) (okB_flat fun k hk => okB_app (okB_app (numB_ok _) (h k hk)) (cartB_ok _))
end Go.Proofs.YtclcfjejpogdlaaGreat.Wi
namespace Go.Proofs.YtclcfjejpogdlaaGreat.Wi
open Go Go.RowKit Go.Aw Go.Aw.Cart Go.Proofs.YtclcfjejpogdlaaGreat.Ca
set_option linter.unusedVariables false
set_option linter.unusedSimpArgs false
set_option maxRecDepth 8000
set_option maxHeartbeats 4000000
open WE
end Go.Proofs.YtclcfjejpogdlaaGreat.Wi
namespace Go.Proofs.YtclcfjejpogdlaaGreat.Wi
open Go Go.RowKit Go.Aw Go.Aw.Cart Go.Proofs.YtclcfjejpogdlaaGreat.Ca
set_option linter.unusedVariables false
set_option linter.unusedSimpArgs false
theorem u8_of {n : Int} (h : IntKind.u8.min ≤ n ∧ n ≤ IntKind.u8.max) : ((n.toNat : Nat) : Int) = n ∧ n.toNat < 256 := by
  simp only [IntKind.min, IntKind.max, IntKind.signed, IntKind.bits] at h
  simp at h; omega
theorem u8s_map {β : Type} {f : Int → β} {l : List Int} (h : ∀ n ∈ l, IntKind.u8.min ≤ n ∧ n ≤ IntKind.u8.max) : (l.map Int.toNat).map (fun n : Nat => f (n : Int)) = l.map f := by
  rw [List.map_map]
  exact List.map_congr_left fun n hn => by simp only [Function.comp_apply, (u8_of (h n hn)).1]
theorem u8s_ok {l : List Int} (h : ∀ n ∈ l, IntKind.u8.min ≤ n ∧ n ≤ IntKind.u8.max) : okB (l.map Int.toNat) := fun n hn => by
  obtain ⟨m, hm, rfl⟩ := List.mem_map.1 hn
  exact (u8_of (h m hm)).2
end Go.Proofs.YtclcfjejpogdlaaGreat.Wi
namespace Go.Aw.Sha
set_option linter.unusedVariables false
set_option linter.unusedSimpArgs false
/-- words -/
abbrev M : Nat := 4294967296
def x32 (a b : Nat) : Nat := (a % M) ^^^ (b % M)
def a32 (a b : Nat) : Nat := a % M &&& b % M
def o32 (a b : Nat) : Nat := a % M ||| b % M
def n32 (a : Nat) : Nat := (M - 1) ^^^ (a % M)
/-- turned right -/
def rotr (x n : Nat) : Nat := x / 2 ^ n ||| (x * 2 ^ (32 - n)) % M
structure V8 where
  a : Nat
  b : Nat
  c : Nat
  d : Nat
  e : Nat
  f : Nat
  g : Nat
  h : Nat
def V8.ok (v : V8) : Prop := v.a < M ∧ v.b < M ∧ v.c < M ∧ v.d < M ∧ v.e < M ∧ v.f < M ∧ v.g < M ∧ v.h < M
def V8.list (v : V8) : List Nat := [v.a, v.b, v.c, v.d, v.e, v.f, v.g, v.h]
def firstV : V8 := ⟨1779033703, 3144134277, 1013904242, 2773480762, 1359893119, 2600822924, 528734635, 1541459225⟩
def consts : List Nat := [1116352408, 1899447441, 3049323471, 3921009573, 961987163, 1508970993, 2453635748, 2870763221, 3624381080, 310598401, 607225278, 1426881987, 1925078388, 2162078206, 2614888103, 3248222580, 3835390401, 4022224774, 264347078, 604807628, 770255983, 1249150122, 1555081692, 1996064986, 2554220882, 2821834349, 2952996808, 3210313671, 3336571891, 3584528711, 113926993, 338241895, 666307205, 773529912, 1294757372, 1396182291, 1695183700, 1986661051, 2177026350, 2456956037, 2730485921, 2820302411, 3259730800, 3345764771, 3516065817, 3600352804, 4094571909, 275423344, 430227734, 506948616, 659060556, 883997877, 958139571, 1322822218, 1537002063, 1747873779, 1955562222, 2024104815, 2227730452, 2361852424, 2428436474, 2756734187, 3204031479, 3329325298]
def stepX (v : V8) (k w : Nat) : Nat := (((v.h + x32 (x32 (rotr v.e 6) (rotr v.e 11)) (rotr v.e 25)) % M + x32 (a32 v.e v.f) (a32 (n32 v.e) v.g)) % M + k) % M
def stepY (v : V8) : Nat := (x32 (x32 (rotr v.a 2) (rotr v.a 13)) (rotr v.a 22) + x32 (x32 (a32 v.a v.b) (a32 v.a v.c)) (a32 v.b v.c)) % M
def step (v : V8) (k w : Nat) : V8 := ⟨((stepX v k w + w) % M + stepY v) % M, v.a, v.b, v.c, (v.d + (stepX v k w + w) % M) % M, v.e, v.f, v.g⟩
/-- the rounds from the first on -/
def steps (w : List Nat) : Nat → V8 → V8
  | 0, v => v
  | t + 1, v => step (steps w t v) (consts.getD t default) (w.getD t default)
def addV (s v : V8) : V8 := ⟨(s.a + v.a) % M, (s.b + v.b) % M, (s.c + v.c) % M, (s.d + v.d) % M, (s.e + v.e) % M, (s.f + v.f) % M, (s.g + v.g) % M, (s.h + v.h) % M⟩
/-- a block's first words -/
def word4 (b : List Nat) (t : Nat) : Nat := o32 (o32 (o32 (((b.drop (4 * t)).getD 0 default % M * 2 ^ 24) % M) (((b.drop (4 * t)).getD 1 default % M * 2 ^ 16) % M)) (((b.drop (4 * t)).getD 2 default % M * 2 ^ 8) % M)) ((b.drop (4 * t)).getD 3 default % M)
def wordN (w : List Nat) (t : Nat) : Nat := (((w.getD (t - 16) default + x32 (x32 (rotr (w.getD (t - 15) default) 7) (rotr (w.getD (t - 15) default) 18)) (w.getD (t - 15) default / 2 ^ 3)) % M + w.getD (t - 7) default) % M
  + x32 (x32 (rotr (w.getD (t - 2) default) 17) (rotr (w.getD (t - 2) default) 19)) (w.getD (t - 2) default / 2 ^ 10)) % M
/-- the array of words, so many of them laid -/
def spreadTo (b : List Nat) : Nat → List Nat
  | 0 => List.replicate 64 0
  | t + 1 => (spreadTo b t).set t (if t < 16 then word4 b t else wordN (spreadTo b t) t)
def block (s : V8) (b : List Nat) : V8 := addV s (steps (spreadTo b 64) 64 s)
def digest (s : V8) : List Nat := (List.range 32).map fun i => (s.list.getD (i / 4) default / 2 ^ (24 - 8 * (i % 4))) % 256
/-- the digest's bytes, so many of them laid -/
def digTo (s : V8) : Nat → List Nat
  | 0 => List.replicate 32 0
  | m + 1 => (digTo s m).set m ((s.list.getD (m / 4) default / 2 ^ (24 - 8 * (m % 4))) % 256)
theorem digTo_len (s : V8) : ∀ m, (digTo s m).length = 32
  | 0 => by simp [digTo]
  | m + 1 => by simp [digTo, digTo_len s m]
theorem digTo_get (s : V8) : ∀ m i (h : i < (digTo s m).length), (digTo s m)[i] = if i < m then (s.list.getD (i / 4) default / 2 ^ (24 - 8 * (i % 4))) % 256 else 0
  | 0, i, h => by rw [if_neg (Nat.not_lt_zero _)]; exact List.getElem_replicate (n := 32) (a := 0) _
  | m + 1, i, h => by
    simp only [digTo, List.getElem_set]
    by_cases e : m = i
    · subst e; simp
    · rw [if_neg e, digTo_get s m i (by simpa [digTo] using h)]
      by_cases h1 : i < m
      · rw [if_pos h1, if_pos (by omega)]
      · rw [if_neg h1, if_neg (by omega)]
theorem digTo_all (s : V8) : digTo s 32 = digest s := by
  apply List.ext_getElem
  · rw [digTo_len]; simp [digest]
  · intro i h1 h2
    rw [digTo_get, if_pos (by rw [digTo_len] at h1; exact h1)]
    simp [digest]
/-- a block's words added to the state, so many of them -/
def addTo (s v : V8) : Nat → List Nat
  | 0 => s.list
  | i + 1 => (addTo s v i).set i (((addTo s v i).getD i default + v.list.getD i default) % M)
theorem addTo_len (s v : V8) : ∀ i, (addTo s v i).length = 8
  | 0 => rfl
  | i + 1 => by simp [addTo, addTo_len s v i]
theorem addTo_all (s v : V8) : addTo s v 8 = (addV s v).list := rfl
def zeros (n : Nat) : Nat := (119 - n % 64) % 64
def lenBytes (n : Nat) : List Nat := (List.range 8).map fun i => ((n * 8) % 18446744073709551616 / 2 ^ (8 * (7 - i))) % 256
def pad (b : List Nat) : List Nat := b ++ [128] ++ List.replicate (zeros b.length) 0 ++ lenBytes b.length
def blocks (p : List Nat) : Nat → V8
  | 0 => firstV
  | j + 1 => block (blocks p j) ((p.drop (64 * j)).take 64)
def sum (b : List Nat) : List Nat := digest (blocks (pad b) ((pad b).length / 64))
theorem spreadTo_len (b : List Nat) : ∀ t, (spreadTo b t).length = 64
  | 0 => by simp [spreadTo]
  | t + 1 => by simp [spreadTo, spreadTo_len b t]
theorem digest_len (s : V8) : (digest s).length = 32 := by simp [digest]
theorem sum_len (b : List Nat) : (sum b).length = 32 := digest_len _
theorem lenBytes_len (n : Nat) : (lenBytes n).length = 8 := by simp [lenBytes]
theorem pad_len (b : List Nat) : (pad b).length = b.length + 1 + zeros b.length + 8 := by simp [pad, lenBytes_len]; omega
theorem pad_64 (b : List Nat) : (pad b).length % 64 = 0 := by rw [pad_len]; unfold zeros; omega
theorem o32_lt (a b : Nat) : o32 a b < M := Nat.or_lt_two_pow (n := 32) (Nat.mod_lt _ (by decide)) (Nat.mod_lt _ (by decide))
theorem step_ok {v : V8} (h : v.ok) (k w : Nat) : (step v k w).ok := by
  obtain ⟨h1, h2, h3, h4, h5, h6, h7, h8⟩ := h
  exact ⟨Nat.mod_lt _ (by decide), h1, h2, h3, Nat.mod_lt _ (by decide), h5, h6, h7⟩
theorem firstV_ok : firstV.ok := by unfold V8.ok firstV; decide
theorem steps_ok {v : V8} (h : v.ok) (w : List Nat) : ∀ t, (steps w t v).ok
  | 0 => h
  | t + 1 => step_ok (steps_ok h w t) _ _
theorem addV_ok (s v : V8) : (addV s v).ok := ⟨Nat.mod_lt _ (by decide), Nat.mod_lt _ (by decide), Nat.mod_lt _ (by decide), Nat.mod_lt _ (by decide), Nat.mod_lt _ (by decide), Nat.mod_lt _ (by decide), Nat.mod_lt _ (by decide), Nat.mod_lt _ (by decide)⟩
theorem blocks_ok (p : List Nat) : ∀ j, (blocks p j).ok
  | 0 => firstV_ok
  | j + 1 => addV_ok _ _
theorem spreadTo_lt (b : List Nat) : ∀ t i, (spreadTo b t).getD i default < M
  | 0, i => by
    simp only [spreadTo, List.getD_eq_getElem?_getD, List.getElem?_replicate]
    split <;> (show _ < 4294967296) <;> decide
  | t + 1, i => by
    have ih := spreadTo_lt b t
    simp only [spreadTo, List.getD_eq_getElem?_getD, List.getElem?_set]
    split
    · split
      · rename_i h1 h2
        simp only [Option.getD_some]
        split
        · exact o32_lt _ _
        · exact Nat.mod_lt _ (by decide)
      · show (0 : Nat) < 4294967296; decide
    · have := ih i; rwa [List.getD_eq_getElem?_getD] at this
end Go.Aw.Sha
namespace Go.Proofs.YtclcfjejpogdlaaGreat.Sh
open Go Go.RowKit Go.Aw Go.Aw.Sha
set_option linter.unusedVariables false
set_option linter.unusedSimpArgs false
set_option maxRecDepth 4000
theorem and31 (z : Int) : 0 ≤ bits .and .u64 z 31 ∧ bits .and .u64 z 31 ≤ 31 := by
  have e : bits .and .u64 z 31 = (((BitVec.ofInt 64 z).toNat &&& 31 : Nat) : Int) := by
    have h1 : (BitVec.ofInt 64 z &&& BitVec.ofInt 64 31).toNat = (BitVec.ofInt 64 z).toNat &&& 31 := by simp [BitVec.toNat_and]
    have h2 : ((BitVec.ofInt 64 z).toNat &&& 31) ≤ 31 := Nat.and_le_right
    show IntKind.u64.wrap ((BitVec.ofInt 64 z &&& BitVec.ofInt 64 31).toNat : Int) = _
    rw [h1, wrap_md rfl, Nat.mod_eq_of_lt]
    exact Nat.lt_of_le_of_lt h2 (by decide)
  have h2 : ((BitVec.ofInt 64 z).toNat &&& 31) ≤ 31 := Nat.and_le_right
  omega
theorem rotl_c (x : Nat) (k : Int) : PCall Tryz.prog 230 [.p (.k .u32 (x : Int)), .p (.i k)] (.p (.k .u32 ((o32 ((x * 2 ^ (bits .and .u64 (IntKind.u64.wrap k) 31).toNat) % M) (x / 2 ^ ((32 : Int) - bits .and .u64 (IntKind.u64.wrap k) 31).toNat) : Nat) : Int))) := by
  refine pcall_of Tryz.func230 rfl (fun w0 F S0 M0 => ?_)
  have h31 := and31 (IntKind.u64.wrap k)
  repeat' (first | refine rnAW ?_ | refine rnS ?_ | refine rnG ?_ | refine rnU ?_ | ((fail_if_success (refine rnKn ?_)); refine rnP ?_ ?_ <;> (intro hq; try (have hq' := hq; simp only [hqs] at hq'))) | refine rkAW ?_ | refine rkS ?_ | refine rkF ?_ | refine rkU ?_ | ((fail_if_success (refine rkKn ?_)); refine rkP ?_ ?_ <;> (intro hq; try (have hq' := hq; simp only [hqs] at hq'))) | refine stp ?_ | refine ifT ?_ | refine ifF ?_ | (refine ifQ ?_ ?_ <;> (try (intro hn))) | (refine ifB ?_ ?_ <;> (intro hq; try (have hq' := hq; simp only [hqs] at hq'))))
  all_goals exact rt1 rfl rfl finS_p rfl
instance {x : Nat} {k : Int} : PC Tryz.prog 230 [.p (.k .u32 (x : Int)), .p (.i k)] True (.p (.k .u32 ((o32 ((x * 2 ^ (bits .and .u64 (IntKind.u64.wrap k) 31).toNat) % M) (x / 2 ^ ((32 : Int) - bits .and .u64 (IntKind.u64.wrap k) 31).toNat) : Nat) : Int))) := ⟨fun _ => rotl_c x k⟩
theorem turn_of : ∀ n : Nat, n < 32 → 1 ≤ n → bits .and .u64 (IntKind.u64.wrap (IntKind.i64.wrap (0 - (n : Int)))) 31 = 32 - (n : Int) := by decide
theorem o32_rot {x n : Nat} (hx : x < M) : o32 ((x * 2 ^ (32 - n)) % M) (x / 2 ^ n) = rotr x n := by
  unfold o32 rotr
  rw [Nat.mod_mod, Nat.mod_eq_of_lt (a := x / 2 ^ n) (Nat.lt_of_le_of_lt (Nat.div_le_self _ _) hx), Nat.or_comm]
theorem right_c (x n : Nat) (h : x < M ∧ 1 ≤ n ∧ n ≤ 31) : PCall Tryz.prog 183 [.p (.k .u32 (x : Int)), .p (.i (n : Int))] (.p (.k .u32 ((rotr x n : Nat) : Int))) := by
  refine pcall_of Tryz.func183 rfl (fun w0 F S0 M0 => ?_)
  repeat' (first | refine rnAW ?_ | refine rnS ?_ | refine rnG ?_ | refine rnU ?_ | ((fail_if_success (refine rnKn ?_)); refine rnP ?_ ?_ <;> (intro hq; try (have hq' := hq; simp only [hqs] at hq'))) | refine rkAW ?_ | refine rkS ?_ | refine rkF ?_ | refine rkU ?_ | ((fail_if_success (refine rkKn ?_)); refine rkP ?_ ?_ <;> (intro hq; try (have hq' := hq; simp only [hqs] at hq'))) | refine stp ?_ | refine ifT ?_ | refine ifF ?_ | (refine ifQ ?_ ?_ <;> (try (intro hn))) | (refine ifB ?_ ?_ <;> (intro hq; try (have hq' := hq; simp only [hqs] at hq'))))
  refine rt1 rfl rfl finS_p (ri ?_)
  have e := turn_of n (by omega) h.2.1
  have e1 : (bits .and .u64 (IntKind.u64.wrap (IntKind.i64.wrap (0 - (n : Int)))) 31).toNat = 32 - n := by rw [e]; omega
  have e2 : ((32 : Int) - bits .and .u64 (IntKind.u64.wrap (IntKind.i64.wrap (0 - (n : Int)))) 31).toNat = n := by rw [e]; omega
  rw [e1, e2, o32_rot h.1]
instance {x : Nat} {k : Int} : PC Tryz.prog 183 [.p (.k .u32 (x : Int)), .p (.i k)] (x < M ∧ 1 ≤ k ∧ k ≤ 31) (.p (.k .u32 ((rotr x k.toNat : Nat) : Int))) := ⟨fun h => by
  have := right_c x k.toNat ⟨h.1, by omega, by omega⟩
  rwa [show ((k.toNat : Nat) : Int) = k by omega] at this⟩
/-- a word's cell -/
abbrev wc (n : Nat) : AC := .p (.k .u32 (n : Int))
abbrev v8 (v : V8) : List AC := [wc v.a, wc v.b, wc v.c, wc v.d, wc v.e, wc v.f, wc v.g, wc v.h]
theorem first_c : PCall Tryz.prog 83 [] (.a (v8 firstV)) := by
  refine pcall_of Tryz.func83 rfl (fun w0 F S0 M0 => ?_)
  repeat' (first | refine rnAW ?_ | refine rnS ?_ | refine rnG ?_ | refine rnU ?_ | ((fail_if_success (refine rnKn ?_)); refine rnP ?_ ?_ <;> (intro hq; try (have hq' := hq; simp only [hqs] at hq'))) | refine rkAW ?_ | refine rkS ?_ | refine rkF ?_ | refine rkU ?_ | ((fail_if_success (refine rkKn ?_)); refine rkP ?_ ?_ <;> (intro hq; try (have hq' := hq; simp only [hqs] at hq'))) | refine stp ?_ | refine ifT ?_ | refine ifF ?_ | (refine ifQ ?_ ?_ <;> (try (intro hn))) | (refine ifB ?_ ?_ <;> (intro hq; try (have hq' := hq; simp only [hqs] at hq'))))
  all_goals exact rc1 rfl rfl rfl rfl rfl rfl finL_p rfl
instance : PC Tryz.prog 83 [] True (.a (v8 firstV)) := ⟨fun _ => first_c⟩
theorem consts_c : PCall Tryz.prog 181 [] (.a (consts.map wc)) := by
  refine pcall_of Tryz.func181 rfl (fun w0 F S0 M0 => ?_)
  repeat' (first | refine rnAW ?_ | refine rnS ?_ | refine rnG ?_ | refine rnU ?_ | ((fail_if_success (refine rnKn ?_)); refine rnP ?_ ?_ <;> (intro hq; try (have hq' := hq; simp only [hqs] at hq'))) | refine rkAW ?_ | refine rkS ?_ | refine rkF ?_ | refine rkU ?_ | ((fail_if_success (refine rkKn ?_)); refine rkP ?_ ?_ <;> (intro hq; try (have hq' := hq; simp only [hqs] at hq'))) | refine stp ?_ | refine ifT ?_ | refine ifF ?_ | (refine ifQ ?_ ?_ <;> (try (intro hn))) | (refine ifB ?_ ?_ <;> (intro hq; try (have hq' := hq; simp only [hqs] at hq'))))
  all_goals exact rc1 rfl rfl rfl rfl rfl rfl finL_p rfl
instance : PC Tryz.prog 181 [] True (.a (consts.map wc)) := ⟨fun _ => consts_c⟩
end Go.Proofs.YtclcfjejpogdlaaGreat.Sh
namespace Go.Proofs.YtclcfjejpogdlaaGreat.Sh
open Go Go.RowKit Go.Aw Go.Aw.Sha
set_option linter.unusedVariables false
set_option linter.unusedSimpArgs false
set_option maxRecDepth 8000
abbrev bytesN (l : List Nat) (ex : Bool) : AV := .p (.sl 1 (l.map fun n : Nat => [PVal.k .u8 (n : Int)]) ex)
set_option maxHeartbeats 2000000 in
theorem spread_c (b : List Nat) (ex : Bool) (h : b.length = 64) : PCall Tryz.prog 182 [bytesN b ex] (.a ((spreadTo b 64).map wc)) := by
  refine pcall_of Tryz.func182 rfl (fun w0 F S0 M0 => ?_)
  repeat' (first | refine rnAW ?_ | refine rnS ?_ | refine rnG ?_ | refine rnU ?_ | ((fail_if_success (refine rnKn ?_)); refine rnP ?_ ?_ <;> (intro hq; try (have hq' := hq; simp only [hqs] at hq'))) | refine rkAW ?_ | refine rkS ?_ | refine rkF ?_ | refine rkU ?_ | ((fail_if_success (refine rkKn ?_)); refine rkP ?_ ?_ <;> (intro hq; try (have hq' := hq; simp only [hqs] at hq'))) | refine stp ?_ | refine ifT ?_ | refine ifF ?_ | (refine ifQ ?_ ?_ <;> (try (intro hn))) | (refine ifB ?_ ?_ <;> (intro hq; try (have hq' := hq; simp only [hqs] at hq'))))
  refine aws_loopS [4, 5, 9, 10, 11, 12, 13, 14, 15, 16, 17, 18, 19, 20, 21, 22, 23, 24, 25, 26, 27, 28, 29, 30, 31, 32, 33, 34, 35, 36, 37, 38, 39, 40] [3] (fun (x : Nat × List Nat) => [(9, .p (.i x.1))]) (fun x => [(3, (1, some (.box 261 (x.2.map wc))))])
    (fun x => x.1 ≤ 16 ∧ x.2 = spreadTo b x.1) (fun x => 16 - x.1) (0, spreadTo b 0) ⟨Nat.zero_le _, rfl⟩ (by exact knA) (by exact knA) ?_
  rintro ⟨t, ws⟩ β γ ⟨ht, hws⟩
  simp only at ht hws
  have hwl : ws.length = 64 := by rw [hws]; exact spreadTo_len b t
  dsimp only
  repeat' (first | refine rnAW ?_ | refine rnS ?_ | refine rnG ?_ | refine rnU ?_ | ((fail_if_success (refine rnKn ?_)); refine rnP ?_ ?_ <;> (intro hq; try (have hq' := hq; simp only [hqs] at hq'))) | refine rkAW ?_ | refine rkS ?_ | refine rkF ?_ | refine rkU ?_ | ((fail_if_success (refine rkKn ?_)); refine rkP ?_ ?_ <;> (intro hq; try (have hq' := hq; simp only [hqs] at hq'))) | refine stp ?_ | refine ifT ?_ | refine ifF ?_ | (refine ifQ ?_ ?_ <;> (try (intro hn))) | (refine ifB ?_ ?_ <;> (intro hq; try (have hq' := hq; simp only [hqs] at hq'))))
  · refine aws_draws [(24, 3)] mixed (by kernel_rfl) ?_
    repeat' (first | refine rk_nil ?_ | refine rkAW ?_ | refine rkS ?_ | refine rkF ?_ | refine rkU ?_ | ((fail_if_success (refine rkKn ?_)); refine rkP ?_ ?_ <;> (intro hq; try (have hq' := hq; simp only [hqs] at hq'))))
    repeat' (first | refine rnAW ?_ | refine rnS ?_ | refine rnG ?_ | refine rnU ?_ | ((fail_if_success (refine rnKn ?_)); refine rnP ?_ ?_ <;> (intro hq; try (have hq' := hq; simp only [hqs] at hq'))) | refine rkAW ?_ | refine rkS ?_ | refine rkF ?_ | refine rkU ?_ | ((fail_if_success (refine rkKn ?_)); refine rkP ?_ ?_ <;> (intro hq; try (have hq' := hq; simp only [hqs] at hq'))) | refine stp ?_ | refine ifT ?_ | refine ifF ?_ | (refine ifQ ?_ ?_ <;> (try (intro hn))) | (refine ifB ?_ ?_ <;> (intro hq; try (have hq' := hq; simp only [hqs] at hq'))))
    apply ex2 (t + 1)
    apply Exists.intro
    refine ⟨?_, ⟨?_, ?_⟩, .refl, ?_⟩
    rotate_left 3
    (focus exact frA)
    · dsimp only; omega
    · dsimp only; omega
    · dsimp only
      have e4 : (4 * (t : Int)).toNat = 4 * t := by omega
      rw [spreadTo, if_pos (by omega), hws, e4, Int.toNat_natCast]
      rfl
  · refine aws_loopS [6, 7, 8, 41, 42, 43, 44, 45, 46, 47, 48, 49, 50, 51, 52, 53, 54, 55, 56, 57, 58, 59, 60, 61, 62, 63, 64, 65, 66, 67, 68, 69, 70, 71, 72, 73, 74, 75, 76, 77, 78, 79, 80, 81] [3] (fun (x : Nat × List Nat) => [(6, .p (.i x.1))]) (fun x => [(3, (1, some (.box 261 (x.2.map wc))))])
      (fun x => 16 ≤ x.1 ∧ x.1 ≤ 64 ∧ x.2 = spreadTo b x.1) (fun x => 64 - x.1) (16, ws) ⟨Nat.le_refl 16, by show 16 ≤ 64; omega, by dsimp only; rw [hws]; congr 1; omega⟩ (by exact knA) (by exact knA) ?_
    rintro ⟨t', ws'⟩ β' γ' ⟨ht0, ht', hws'⟩
    simp only at ht0 ht' hws'
    have hwl' : ws'.length = 64 := by rw [hws']; exact spreadTo_len b t'
    have hx : ws'.getD ((t' : Int) - 15).toNat default < M := by rw [hws']; exact spreadTo_lt b _ _
    have hy : ws'.getD ((t' : Int) - 2).toNat default < M := by rw [hws']; exact spreadTo_lt b _ _
    dsimp only
    repeat' (first | refine rnAW ?_ | refine rnS ?_ | refine rnG ?_ | refine rnU ?_ | ((fail_if_success (refine rnKn ?_)); refine rnP ?_ ?_ <;> (intro hq; try (have hq' := hq; simp only [hqs] at hq'))) | refine rkAW ?_ | refine rkS ?_ | refine rkF ?_ | refine rkU ?_ | ((fail_if_success (refine rkKn ?_)); refine rkP ?_ ?_ <;> (intro hq; try (have hq' := hq; simp only [hqs] at hq'))) | refine stp ?_ | refine ifT ?_ | refine ifF ?_ | (refine ifQ ?_ ?_ <;> (try (intro hn))) | (refine ifB ?_ ?_ <;> (intro hq; try (have hq' := hq; simp only [hqs] at hq'))))
    · refine aws_draws [] mixed (by kernel_rfl) ?_
      repeat' (first | refine rk_nil ?_ | refine rkAW ?_ | refine rkS ?_ | refine rkF ?_ | refine rkU ?_ | ((fail_if_success (refine rkKn ?_)); refine rkP ?_ ?_ <;> (intro hq; try (have hq' := hq; simp only [hqs] at hq'))))
      repeat' (first | refine rnAW ?_ | refine rnS ?_ | refine rnG ?_ | refine rnU ?_ | ((fail_if_success (refine rnKn ?_)); refine rnP ?_ ?_ <;> (intro hq; try (have hq' := hq; simp only [hqs] at hq'))) | refine rkAW ?_ | refine rkS ?_ | refine rkF ?_ | refine rkU ?_ | ((fail_if_success (refine rkKn ?_)); refine rkP ?_ ?_ <;> (intro hq; try (have hq' := hq; simp only [hqs] at hq'))) | refine stp ?_ | refine ifT ?_ | refine ifF ?_ | (refine ifQ ?_ ?_ <;> (try (intro hn))) | (refine ifB ?_ ?_ <;> (intro hq; try (have hq' := hq; simp only [hqs] at hq'))))
      refine aws_draws [(29, 3)] mixed (by kernel_rfl) ?_
      repeat' (first | refine rk_nil ?_ | refine rkAW ?_ | refine rkS ?_ | refine rkF ?_ | refine rkU ?_ | ((fail_if_success (refine rkKn ?_)); refine rkP ?_ ?_ <;> (intro hq; try (have hq' := hq; simp only [hqs] at hq'))))
      repeat' (first | refine rnAW ?_ | refine rnS ?_ | refine rnG ?_ | refine rnU ?_ | ((fail_if_success (refine rnKn ?_)); refine rnP ?_ ?_ <;> (intro hq; try (have hq' := hq; simp only [hqs] at hq'))) | refine rkAW ?_ | refine rkS ?_ | refine rkF ?_ | refine rkU ?_ | ((fail_if_success (refine rkKn ?_)); refine rkP ?_ ?_ <;> (intro hq; try (have hq' := hq; simp only [hqs] at hq'))) | refine stp ?_ | refine ifT ?_ | refine ifF ?_ | (refine ifQ ?_ ?_ <;> (try (intro hn))) | (refine ifB ?_ ?_ <;> (intro hq; try (have hq' := hq; simp only [hqs] at hq'))))
      apply ex2 (t' + 1)
      apply Exists.intro
      refine ⟨?_, ⟨?_, ?_, ?_⟩, .refl, ?_⟩
      rotate_left 4
      (focus exact frA)
      · dsimp only; omega
      · dsimp only; omega
      · dsimp only; omega
      · dsimp only
        have e15 : ((t' : Int) - 15).toNat = t' - 15 := by omega
        have e16 : ((t' : Int) - 16).toNat = t' - 16 := by omega
        have e2 : ((t' : Int) - 2).toNat = t' - 2 := by omega
        have e7 : ((t' : Int) - 7).toNat = t' - 7 := by omega
        rw [spreadTo, if_neg (by omega), e15, e16, e2, e7, Int.toNat_natCast, ← hws']
        rfl
    · refine rc1 rfl rfl rfl rfl rfl (by simpa using hwl') finL_p ?_
      rw [hws', show t' = 64 by omega]
instance {b : List Nat} {ex : Bool} : PC Tryz.prog 182 [bytesN b ex] (b.length = 64) (.a ((spreadTo b 64).map wc)) := ⟨spread_c b ex⟩
end Go.Proofs.YtclcfjejpogdlaaGreat.Sh
