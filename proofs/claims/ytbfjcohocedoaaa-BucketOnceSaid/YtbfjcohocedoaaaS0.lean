/- SHA-256 in plain Lean, over natural numbers. Nothing here speaks of a program.; SHA-256, the program's: turning words, the constants.; SHA-256, the program's: the words of a block.; SHA-256, the program's: a digest's bytes; a block.; SHA-256, the program's: what is padded.; SHA-256, the program's: what is padded.; SHA-256, the program's: the blocks, one behind the other.; SHA-256, the program's: the sum.; SHA-256, the program's: the sum, as callers write its texts. -/
import Derived.Test.YtbfjcohocedoaaaKe
import Derived.Test.YtbfjcohocedoaaaTy
/- SHA-256 in plain Lean, over natural numbers. Nothing here speaks of a program. -/
namespace Go.Aw.Sha
set_option linter.unusedVariables false
set_option linter.unusedSimpArgs false
/-- words -/
abbrev M : Nat := 4294967296
def x32 (a b : Nat) : Nat := (a % M) ^^^ (b % M)
def a32 (a b : Nat) : Nat := a % M &&& b % M
def o32 (a b : Nat) : Nat := a % M ||| b % M
def n32 (a : Nat) : Nat := (M - 1) ^^^ (a % M)
/-- turned right -/
def rotr (x n : Nat) : Nat := x / 2 ^ n ||| (x * 2 ^ (32 - n)) % M
structure V8 where
  a : Nat
  b : Nat
  c : Nat
  d : Nat
  e : Nat
  f : Nat
  g : Nat
  h : Nat
def V8.ok (v : V8) : Prop := v.a < M ∧ v.b < M ∧ v.c < M ∧ v.d < M ∧ v.e < M ∧ v.f < M ∧ v.g < M ∧ v.h < M
def V8.list (v : V8) : List Nat := [v.a, v.b, v.c, v.d, v.e, v.f, v.g, v.h]
def firstV : V8 := ⟨1779033703, 3144134277, 1013904242, 2773480762, 1359893119, 2600822924, 528734635, 1541459225⟩
def consts : List Nat := [1116352408, 1899447441, 3049323471, 3921009573, 961987163, 1508970993, 2453635748, 2870763221, 3624381080, 310598401, 607225278, 1426881987, 1925078388, 2162078206, 2614888103, 3248222580, 3835390401, 4022224774, 264347078, 604807628, 770255983, 1249150122, 1555081692, 1996064986, 2554220882, 2821834349, 2952996808, 3210313671, 3336571891, 3584528711, 113926993, 338241895, 666307205, 773529912, 1294757372, 1396182291, 1695183700, 1986661051, 2177026350, 2456956037, 2730485921, 2820302411, 3259730800, 3345764771, 3516065817, 3600352804, 4094571909, 275423344, 430227734, 506948616, 659060556, 883997877, 958139571, 1322822218, 1537002063, 1747873779, 1955562222, 2024104815, 2227730452, 2361852424, 2428436474, 2756734187, 3204031479, 3329325298]
def stepX (v : V8) (k w : Nat) : Nat := (((v.h + x32 (x32 (rotr v.e 6) (rotr v.e 11)) (rotr v.e 25)) % M + x32 (a32 v.e v.f) (a32 (n32 v.e) v.g)) % M + k) % M
def stepY (v : V8) : Nat := (x32 (x32 (rotr v.a 2) (rotr v.a 13)) (rotr v.a 22) + x32 (x32 (a32 v.a v.b) (a32 v.a v.c)) (a32 v.b v.c)) % M
def step (v : V8) (k w : Nat) : V8 := ⟨((stepX v k w + w) % M + stepY v) % M, v.a, v.b, v.c, (v.d + (stepX v k w + w) % M) % M, v.e, v.f, v.g⟩
/-- the rounds from the first on -/
def steps (w : List Nat) : Nat → V8 → V8
  | 0, v => v
  | t + 1, v => step (steps w t v) (consts.getD t default) (w.getD t default)
def addV (s v : V8) : V8 := ⟨(s.a + v.a) % M, (s.b + v.b) % M, (s.c + v.c) % M, (s.d + v.d) % M, (s.e + v.e) % M, (s.f + v.f) % M, (s.g + v.g) % M, (s.h + v.h) % M⟩
/-- a block's first words -/
def word4 (b : List Nat) (t : Nat) : Nat := o32 (o32 (o32 (((b.drop (4 * t)).getD 0 default % M * 2 ^ 24) % M) (((b.drop (4 * t)).getD 1 default % M * 2 ^ 16) % M)) (((b.drop (4 * t)).getD 2 default % M * 2 ^ 8) % M)) ((b.drop (4 * t)).getD 3 default % M)
def wordN (w : List Nat) (t : Nat) : Nat := (((w.getD (t - 16) default + x32 (x32 (rotr (w.getD (t - 15) default) 7) (rotr (w.getD (t - 15) default) 18)) (w.getD (t - 15) default / 2 ^ 3)) % M + w.getD (t - 7) default) % M
  + x32 (x32 (rotr (w.getD (t - 2) default) 17) (rotr (w.getD (t - 2) default) 19)) (w.getD (t - 2) default / 2 ^ 10)) % M
/-- the array of words, so many of them laid -/
def spreadTo (b : List Nat) : Nat → List Nat
  | 0 => List.replicate 64 0
  | t + 1 => (spreadTo b t).set t (if t < 16 then word4 b t else wordN (spreadTo b t) t)
def block (s : V8) (b : List Nat) : V8 := addV s (steps (spreadTo b 64) 64 s)
def digest (s : V8) : List Nat := (List.range 32).map fun i => (s.list.getD (i / 4) default / 2 ^ (24 - 8 * (i % 4))) % 256
/-- the digest's bytes, so many of them laid -/
def digTo (s : V8) : Nat → List Nat
  | 0 => List.replicate 32 0
  | m + 1 => (digTo s m).set m ((s.list.getD (m / 4) default / 2 ^ (24 - 8 * (m % 4))) % 256)
theorem digTo_len (s : V8) : ∀ m, (digTo s m).length = 32
  | 0 => by simp [digTo]
  | m + 1 => by simp [digTo, digTo_len s m]
theorem digTo_get (s : V8) : ∀ m i (h : i < (digTo s m).length), (digTo s m)[i] = if i < m then (s.list.getD (i / 4) default / 2 ^ (24 - 8 * (i % 4))) % 256 else 0
  | 0, i, h => by rw [if_neg (Nat.not_lt_zero _)]; exact List.getElem_replicate (n := 32) (a := 0) _
  | m + 1, i, h => by
    simp only [digTo, List.getElem_set]
    by_cases e : m = i
    · subst e; simp
    · rw [if_neg e, digTo_get s m i (by simpa [digTo] using h)]
      by_cases h1 : i < m
      · rw [if_pos h1, if_pos (by omega)]
      · rw [if_neg h1, if_neg (by omega)]
theorem digTo_all (s : V8) : digTo s 32 = digest s := by
  apply List.ext_getElem
  · rw [digTo_len]; simp [digest]
  · intro i h1 h2
    rw [digTo_get, if_pos (by rw [digTo_len] at h1; exact h1)]
    simp [digest]
/-- a block's words added to the state, so many of them -/
def addTo (s v : V8) : Nat → List Nat
  | 0 => s.list
  | i + 1 => (addTo s v i).set i (((addTo s v i).getD i default + v.list.getD i default) % M)
theorem addTo_len (s v : V8) : ∀ i, (addTo s v i).length = 8
  | 0 => rfl
  | i + 1 => by simp [addTo, addTo_len s v i]
theorem addTo_all (s v : V8) : addTo s v 8 = (addV s v).list := rfl
def zeros (n : Nat) : Nat := (119 - n % 64) % 64
def lenBytes (n : Nat) : List Nat := (List.range 8).map fun i => ((n * 8) % 18446744073709551616 / 2 ^ (8 * (7 - i))) % 256
def pad (b : List Nat) : List Nat := b ++ [128] ++ List.replicate (zeros b.length) 0 ++ lenBytes b.length
def blocks (p : List Nat) : Nat → V8
  | 0 => firstV
  | j + 1 => block (blocks p j) ((p.drop (64 * j)).take 64)
def sum (b : List Nat) : List Nat := digest (blocks (pad b) ((pad b).length / 64))

theorem spreadTo_len (b : List Nat) : ∀ t, (spreadTo b t).length = 64
  | 0 => by simp [spreadTo]
  | t + 1 => by simp [spreadTo, spreadTo_len b t]
theorem digest_len (s : V8) : (digest s).length = 32 := by simp [digest]
theorem sum_len (b : List Nat) : (sum b).length = 32 := digest_len _
theorem lenBytes_len (n : Nat) : (lenBytes n).length = 8 := by simp [lenBytes]
theorem pad_len (b : List Nat) : (pad b).length = b.length + 1 + zeros b.length + 8 := by simp [pad, lenBytes_len]; omega
theorem pad_64 (b : List Nat) : (pad b).length % 64 = 0 := by rw [pad_len]; unfold zeros; omega
theorem consts_len : consts.length = 64 := rfl

theorem rotr_lt {x n : Nat} (hx : x < M) (hn : n ≤ 32) : rotr x n < M := by
  unfold rotr
  exact Nat.or_lt_two_pow (n := 32) (Nat.lt_of_le_of_lt (Nat.div_le_self _ _) hx) (Nat.mod_lt _ (by decide))
theorem x32_lt (a b : Nat) : x32 a b < M := Nat.xor_lt_two_pow (n := 32) (Nat.mod_lt _ (by decide)) (Nat.mod_lt _ (by decide))
theorem a32_lt (a b : Nat) : a32 a b < M := Nat.and_lt_two_pow (n := 32) _ (Nat.mod_lt _ (by decide))
theorem o32_lt (a b : Nat) : o32 a b < M := Nat.or_lt_two_pow (n := 32) (Nat.mod_lt _ (by decide)) (Nat.mod_lt _ (by decide))
theorem step_ok {v : V8} (h : v.ok) (k w : Nat) : (step v k w).ok := by
  obtain ⟨h1, h2, h3, h4, h5, h6, h7, h8⟩ := h
  exact ⟨Nat.mod_lt _ (by decide), h1, h2, h3, Nat.mod_lt _ (by decide), h5, h6, h7⟩
theorem firstV_ok : firstV.ok := by unfold V8.ok firstV; decide
theorem steps_ok {v : V8} (h : v.ok) (w : List Nat) : ∀ t, (steps w t v).ok
  | 0 => h
  | t + 1 => step_ok (steps_ok h w t) _ _
theorem addV_ok (s v : V8) : (addV s v).ok := ⟨Nat.mod_lt _ (by decide), Nat.mod_lt _ (by decide), Nat.mod_lt _ (by decide), Nat.mod_lt _ (by decide), Nat.mod_lt _ (by decide), Nat.mod_lt _ (by decide), Nat.mod_lt _ (by decide), Nat.mod_lt _ (by decide)⟩
theorem blocks_ok (p : List Nat) : ∀ j, (blocks p j).ok
  | 0 => firstV_ok
  | j + 1 => addV_ok _ _
theorem spreadTo_lt (b : List Nat) : ∀ t i, (spreadTo b t).getD i default < M
  | 0, i => by
    simp only [spreadTo, List.getD_eq_getElem?_getD, List.getElem?_replicate]
    split <;> (show _ < 4294967296) <;> decide
  | t + 1, i => by
    have ih := spreadTo_lt b t
    simp only [spreadTo, List.getD_eq_getElem?_getD, List.getElem?_set]
    split
    · split
      · rename_i h1 h2
        simp only [Option.getD_some]
        split
        · exact o32_lt _ _
        · exact Nat.mod_lt _ (by decide)
      · show (0 : Nat) < 4294967296; decide
    · have := ih i; rwa [List.getD_eq_getElem?_getD] at this
end Go.Aw.Sha
namespace Go.Proofs.Ytbfjcohocedoaaa.Sh
open Go Go.RowKit Go.Aw Go.Aw.Sha
set_option linter.unusedVariables false
set_option linter.unusedSimpArgs false
set_option maxRecDepth 4000

theorem and31 (z : Int) : 0 ≤ bits .and .u64 z 31 ∧ bits .and .u64 z 31 ≤ 31 := by
  have e : bits .and .u64 z 31 = (((BitVec.ofInt 64 z).toNat &&& 31 : Nat) : Int) := by
    have h1 : (BitVec.ofInt 64 z &&& BitVec.ofInt 64 31).toNat = (BitVec.ofInt 64 z).toNat &&& 31 := by simp [BitVec.toNat_and]
    have h2 : ((BitVec.ofInt 64 z).toNat &&& 31) ≤ 31 := Nat.and_le_right
    show IntKind.u64.wrap ((BitVec.ofInt 64 z &&& BitVec.ofInt 64 31).toNat : Int) = _
    rw [h1, wrap_md rfl, Nat.mod_eq_of_lt]
    exact Nat.lt_of_le_of_lt h2 (by decide)
  have h2 : ((BitVec.ofInt 64 z).toNat &&& 31) ≤ 31 := Nat.and_le_right
  omega
theorem rotl_c (x : Nat) (k : Int) : PCall Try.prog 113 [.p (.k .u32 (x : Int)), .p (.i k)] (.p (.k .u32 ((o32 ((x * 2 ^ (bits .and .u64 (IntKind.u64.wrap k) 31).toNat) % M) (x / 2 ^ ((32 : Int) - bits .and .u64 (IntKind.u64.wrap k) 31).toNat) : Nat) : Int))) := by
  refine pcall_of Try.func113 rfl (fun w0 F S0 M0 => ?_)
  have h31 := and31 (IntKind.u64.wrap k)
  repeat' (first | refine rnAW ?_ | refine rnS ?_ | refine rnG ?_ | refine rnU ?_ | ((fail_if_success (refine rnKn ?_)); refine rnP ?_ ?_ <;> (intro hq; try (have hq' := hq; simp only [hqs] at hq'))) | refine rkAW ?_ | refine rkS ?_ | refine rkF ?_ | refine rkU ?_ | ((fail_if_success (refine rkKn ?_)); refine rkP ?_ ?_ <;> (intro hq; try (have hq' := hq; simp only [hqs] at hq'))) | refine stp ?_ | refine ifT ?_ | refine ifF ?_ | (refine ifQ ?_ ?_ <;> (try (intro hn))) | (refine ifB ?_ ?_ <;> (intro hq; try (have hq' := hq; simp only [hqs] at hq'))))
  all_goals exact rt1 rfl rfl finS_p rfl
instance {x : Nat} {k : Int} : PC Try.prog 113 [.p (.k .u32 (x : Int)), .p (.i k)] True (.p (.k .u32 ((o32 ((x * 2 ^ (bits .and .u64 (IntKind.u64.wrap k) 31).toNat) % M) (x / 2 ^ ((32 : Int) - bits .and .u64 (IntKind.u64.wrap k) 31).toNat) : Nat) : Int))) := ⟨fun _ => rotl_c x k⟩

theorem turn_of : ∀ n : Nat, n < 32 → 1 ≤ n → bits .and .u64 (IntKind.u64.wrap (IntKind.i64.wrap (0 - (n : Int)))) 31 = 32 - (n : Int) := by decide
theorem o32_rot {x n : Nat} (hx : x < M) : o32 ((x * 2 ^ (32 - n)) % M) (x / 2 ^ n) = rotr x n := by
  unfold o32 rotr
  rw [Nat.mod_mod, Nat.mod_eq_of_lt (a := x / 2 ^ n) (Nat.lt_of_le_of_lt (Nat.div_le_self _ _) hx), Nat.or_comm]
theorem right_c (x n : Nat) (h : x < M ∧ 1 ≤ n ∧ n ≤ 31) : PCall Try.prog 101 [.p (.k .u32 (x : Int)), .p (.i (n : Int))] (.p (.k .u32 ((rotr x n : Nat) : Int))) := by
  refine pcall_of Try.func101 rfl (fun w0 F S0 M0 => ?_)
  repeat' (first | refine rnAW ?_ | refine rnS ?_ | refine rnG ?_ | refine rnU ?_ | ((fail_if_success (refine rnKn ?_)); refine rnP ?_ ?_ <;> (intro hq; try (have hq' := hq; simp only [hqs] at hq'))) | refine rkAW ?_ | refine rkS ?_ | refine rkF ?_ | refine rkU ?_ | ((fail_if_success (refine rkKn ?_)); refine rkP ?_ ?_ <;> (intro hq; try (have hq' := hq; simp only [hqs] at hq'))) | refine stp ?_ | refine ifT ?_ | refine ifF ?_ | (refine ifQ ?_ ?_ <;> (try (intro hn))) | (refine ifB ?_ ?_ <;> (intro hq; try (have hq' := hq; simp only [hqs] at hq'))))
  refine rt1 rfl rfl finS_p (ri ?_)
  have e := turn_of n (by omega) h.2.1
  have e1 : (bits .and .u64 (IntKind.u64.wrap (IntKind.i64.wrap (0 - (n : Int)))) 31).toNat = 32 - n := by rw [e]; omega
  have e2 : ((32 : Int) - bits .and .u64 (IntKind.u64.wrap (IntKind.i64.wrap (0 - (n : Int)))) 31).toNat = n := by rw [e]; omega
  rw [e1, e2, o32_rot h.1]
instance {x : Nat} {k : Int} : PC Try.prog 101 [.p (.k .u32 (x : Int)), .p (.i k)] (x < M ∧ 1 ≤ k ∧ k ≤ 31) (.p (.k .u32 ((rotr x k.toNat : Nat) : Int))) := ⟨fun h => by
  have := right_c x k.toNat ⟨h.1, by omega, by omega⟩
  rwa [show ((k.toNat : Nat) : Int) = k by omega] at this⟩
/-- a word's cell -/
abbrev wc (n : Nat) : AC := .p (.k .u32 (n : Int))
abbrev v8 (v : V8) : List AC := [wc v.a, wc v.b, wc v.c, wc v.d, wc v.e, wc v.f, wc v.g, wc v.h]
theorem first_c : PCall Try.prog 89 [] (.a (v8 firstV)) := by
  refine pcall_of Try.func89 rfl (fun w0 F S0 M0 => ?_)
  repeat' (first | refine rnAW ?_ | refine rnS ?_ | refine rnG ?_ | refine rnU ?_ | ((fail_if_success (refine rnKn ?_)); refine rnP ?_ ?_ <;> (intro hq; try (have hq' := hq; simp only [hqs] at hq'))) | refine rkAW ?_ | refine rkS ?_ | refine rkF ?_ | refine rkU ?_ | ((fail_if_success (refine rkKn ?_)); refine rkP ?_ ?_ <;> (intro hq; try (have hq' := hq; simp only [hqs] at hq'))) | refine stp ?_ | refine ifT ?_ | refine ifF ?_ | (refine ifQ ?_ ?_ <;> (try (intro hn))) | (refine ifB ?_ ?_ <;> (intro hq; try (have hq' := hq; simp only [hqs] at hq'))))
  all_goals exact rc1 rfl rfl rfl rfl rfl rfl finL_p rfl
instance : PC Try.prog 89 [] True (.a (v8 firstV)) := ⟨fun _ => first_c⟩
theorem consts_c : PCall Try.prog 99 [] (.a (consts.map wc)) := by
  refine pcall_of Try.func99 rfl (fun w0 F S0 M0 => ?_)
  repeat' (first | refine rnAW ?_ | refine rnS ?_ | refine rnG ?_ | refine rnU ?_ | ((fail_if_success (refine rnKn ?_)); refine rnP ?_ ?_ <;> (intro hq; try (have hq' := hq; simp only [hqs] at hq'))) | refine rkAW ?_ | refine rkS ?_ | refine rkF ?_ | refine rkU ?_ | ((fail_if_success (refine rkKn ?_)); refine rkP ?_ ?_ <;> (intro hq; try (have hq' := hq; simp only [hqs] at hq'))) | refine stp ?_ | refine ifT ?_ | refine ifF ?_ | (refine ifQ ?_ ?_ <;> (try (intro hn))) | (refine ifB ?_ ?_ <;> (intro hq; try (have hq' := hq; simp only [hqs] at hq'))))
  all_goals exact rc1 rfl rfl rfl rfl rfl rfl finL_p rfl
instance : PC Try.prog 99 [] True (.a (consts.map wc)) := ⟨fun _ => consts_c⟩
end Go.Proofs.Ytbfjcohocedoaaa.Sh
namespace Go.Proofs.Ytbfjcohocedoaaa.Sh
open Go Go.RowKit Go.Aw Go.Aw.Sha
set_option linter.unusedVariables false
set_option linter.unusedSimpArgs false
set_option maxRecDepth 8000

abbrev bytesN (l : List Nat) (ex : Bool) : AV := .p (.sl 1 (l.map fun n : Nat => [PVal.k .u8 (n : Int)]) ex)
set_option maxHeartbeats 2000000 in
theorem spread_c (b : List Nat) (ex : Bool) (h : b.length = 64) : PCall Try.prog 100 [bytesN b ex] (.a ((spreadTo b 64).map wc)) := by
  refine pcall_of Try.func100 rfl (fun w0 F S0 M0 => ?_)
  repeat' (first | refine rnAW ?_ | refine rnS ?_ | refine rnG ?_ | refine rnU ?_ | ((fail_if_success (refine rnKn ?_)); refine rnP ?_ ?_ <;> (intro hq; try (have hq' := hq; simp only [hqs] at hq'))) | refine rkAW ?_ | refine rkS ?_ | refine rkF ?_ | refine rkU ?_ | ((fail_if_success (refine rkKn ?_)); refine rkP ?_ ?_ <;> (intro hq; try (have hq' := hq; simp only [hqs] at hq'))) | refine stp ?_ | refine ifT ?_ | refine ifF ?_ | (refine ifQ ?_ ?_ <;> (try (intro hn))) | (refine ifB ?_ ?_ <;> (intro hq; try (have hq' := hq; simp only [hqs] at hq'))))
  refine aws_loopS [4, 5, 9, 10, 11, 12, 13, 14, 15, 16, 17, 18, 19, 20, 21, 22, 23, 24, 25, 26, 27, 28, 29, 30, 31, 32, 33, 34, 35, 36, 37, 38, 39, 40] [3] (fun (x : Nat × List Nat) => [(9, .p (.i x.1))]) (fun x => [(3, (1, some (.box 145 (x.2.map wc))))])
    (fun x => x.1 ≤ 16 ∧ x.2 = spreadTo b x.1) (fun x => 16 - x.1) (0, spreadTo b 0) ⟨Nat.zero_le _, rfl⟩ (by exact knA) (by exact knA) ?_
  rintro ⟨t, ws⟩ β γ ⟨ht, hws⟩
  simp only at ht hws
  have hwl : ws.length = 64 := by rw [hws]; exact spreadTo_len b t
  dsimp only
  repeat' (first | refine rnAW ?_ | refine rnS ?_ | refine rnG ?_ | refine rnU ?_ | ((fail_if_success (refine rnKn ?_)); refine rnP ?_ ?_ <;> (intro hq; try (have hq' := hq; simp only [hqs] at hq'))) | refine rkAW ?_ | refine rkS ?_ | refine rkF ?_ | refine rkU ?_ | ((fail_if_success (refine rkKn ?_)); refine rkP ?_ ?_ <;> (intro hq; try (have hq' := hq; simp only [hqs] at hq'))) | refine stp ?_ | refine ifT ?_ | refine ifF ?_ | (refine ifQ ?_ ?_ <;> (try (intro hn))) | (refine ifB ?_ ?_ <;> (intro hq; try (have hq' := hq; simp only [hqs] at hq'))))
  · refine aws_draws [(24, 3)] mixed (by kernel_rfl) ?_
    repeat' (first | refine rk_nil ?_ | refine rkAW ?_ | refine rkS ?_ | refine rkF ?_ | refine rkU ?_ | ((fail_if_success (refine rkKn ?_)); refine rkP ?_ ?_ <;> (intro hq; try (have hq' := hq; simp only [hqs] at hq'))))
    repeat' (first | refine rnAW ?_ | refine rnS ?_ | refine rnG ?_ | refine rnU ?_ | ((fail_if_success (refine rnKn ?_)); refine rnP ?_ ?_ <;> (intro hq; try (have hq' := hq; simp only [hqs] at hq'))) | refine rkAW ?_ | refine rkS ?_ | refine rkF ?_ | refine rkU ?_ | ((fail_if_success (refine rkKn ?_)); refine rkP ?_ ?_ <;> (intro hq; try (have hq' := hq; simp only [hqs] at hq'))) | refine stp ?_ | refine ifT ?_ | refine ifF ?_ | (refine ifQ ?_ ?_ <;> (try (intro hn))) | (refine ifB ?_ ?_ <;> (intro hq; try (have hq' := hq; simp only [hqs] at hq'))))
    apply ex2 (t + 1)
    apply Exists.intro
    refine ⟨?_, ⟨?_, ?_⟩, .refl, ?_⟩
    rotate_left 3
    (focus exact frA)
    · dsimp only; omega
    · dsimp only; omega
    · dsimp only
      have e4 : (4 * (t : Int)).toNat = 4 * t := by omega
      rw [spreadTo, if_pos (by omega), hws, e4, Int.toNat_natCast]
      rfl
  · refine aws_loopS [6, 7, 8, 41, 42, 43, 44, 45, 46, 47, 48, 49, 50, 51, 52, 53, 54, 55, 56, 57, 58, 59, 60, 61, 62, 63, 64, 65, 66, 67, 68, 69, 70, 71, 72, 73, 74, 75, 76, 77, 78, 79, 80, 81] [3] (fun (x : Nat × List Nat) => [(6, .p (.i x.1))]) (fun x => [(3, (1, some (.box 145 (x.2.map wc))))])
      (fun x => 16 ≤ x.1 ∧ x.1 ≤ 64 ∧ x.2 = spreadTo b x.1) (fun x => 64 - x.1) (16, ws) ⟨Nat.le_refl 16, by show 16 ≤ 64; omega, by dsimp only; rw [hws]; congr 1; omega⟩ (by exact knA) (by exact knA) ?_
    rintro ⟨t', ws'⟩ β' γ' ⟨ht0, ht', hws'⟩
    simp only at ht0 ht' hws'
    have hwl' : ws'.length = 64 := by rw [hws']; exact spreadTo_len b t'
    have hx : ws'.getD ((t' : Int) - 15).toNat default < M := by rw [hws']; exact spreadTo_lt b _ _
    have hy : ws'.getD ((t' : Int) - 2).toNat default < M := by rw [hws']; exact spreadTo_lt b _ _
    dsimp only
    repeat' (first | refine rnAW ?_ | refine rnS ?_ | refine rnG ?_ | refine rnU ?_ | ((fail_if_success (refine rnKn ?_)); refine rnP ?_ ?_ <;> (intro hq; try (have hq' := hq; simp only [hqs] at hq'))) | refine rkAW ?_ | refine rkS ?_ | refine rkF ?_ | refine rkU ?_ | ((fail_if_success (refine rkKn ?_)); refine rkP ?_ ?_ <;> (intro hq; try (have hq' := hq; simp only [hqs] at hq'))) | refine stp ?_ | refine ifT ?_ | refine ifF ?_ | (refine ifQ ?_ ?_ <;> (try (intro hn))) | (refine ifB ?_ ?_ <;> (intro hq; try (have hq' := hq; simp only [hqs] at hq'))))
    · refine aws_draws [] mixed (by kernel_rfl) ?_
      repeat' (first | refine rk_nil ?_ | refine rkAW ?_ | refine rkS ?_ | refine rkF ?_ | refine rkU ?_ | ((fail_if_success (refine rkKn ?_)); refine rkP ?_ ?_ <;> (intro hq; try (have hq' := hq; simp only [hqs] at hq'))))
      repeat' (first | refine rnAW ?_ | refine rnS ?_ | refine rnG ?_ | refine rnU ?_ | ((fail_if_success (refine rnKn ?_)); refine rnP ?_ ?_ <;> (intro hq; try (have hq' := hq; simp only [hqs] at hq'))) | refine rkAW ?_ | refine rkS ?_ | refine rkF ?_ | refine rkU ?_ | ((fail_if_success (refine rkKn ?_)); refine rkP ?_ ?_ <;> (intro hq; try (have hq' := hq; simp only [hqs] at hq'))) | refine stp ?_ | refine ifT ?_ | refine ifF ?_ | (refine ifQ ?_ ?_ <;> (try (intro hn))) | (refine ifB ?_ ?_ <;> (intro hq; try (have hq' := hq; simp only [hqs] at hq'))))
      refine aws_draws [(29, 3)] mixed (by kernel_rfl) ?_
      repeat' (first | refine rk_nil ?_ | refine rkAW ?_ | refine rkS ?_ | refine rkF ?_ | refine rkU ?_ | ((fail_if_success (refine rkKn ?_)); refine rkP ?_ ?_ <;> (intro hq; try (have hq' := hq; simp only [hqs] at hq'))))
      repeat' (first | refine rnAW ?_ | refine rnS ?_ | refine rnG ?_ | refine rnU ?_ | ((fail_if_success (refine rnKn ?_)); refine rnP ?_ ?_ <;> (intro hq; try (have hq' := hq; simp only [hqs] at hq'))) | refine rkAW ?_ | refine rkS ?_ | refine rkF ?_ | refine rkU ?_ | ((fail_if_success (refine rkKn ?_)); refine rkP ?_ ?_ <;> (intro hq; try (have hq' := hq; simp only [hqs] at hq'))) | refine stp ?_ | refine ifT ?_ | refine ifF ?_ | (refine ifQ ?_ ?_ <;> (try (intro hn))) | (refine ifB ?_ ?_ <;> (intro hq; try (have hq' := hq; simp only [hqs] at hq'))))
      apply ex2 (t' + 1)
      apply Exists.intro
      refine ⟨?_, ⟨?_, ?_, ?_⟩, .refl, ?_⟩
      rotate_left 4
      (focus exact frA)
      · dsimp only; omega
      · dsimp only; omega
      · dsimp only; omega
      · dsimp only
        have e15 : ((t' : Int) - 15).toNat = t' - 15 := by omega
        have e16 : ((t' : Int) - 16).toNat = t' - 16 := by omega
        have e2 : ((t' : Int) - 2).toNat = t' - 2 := by omega
        have e7 : ((t' : Int) - 7).toNat = t' - 7 := by omega
        rw [spreadTo, if_neg (by omega), e15, e16, e2, e7, Int.toNat_natCast, ← hws']
        rfl
    · refine rc1 rfl rfl rfl rfl rfl (by simpa using hwl') finL_p ?_
      rw [hws', show t' = 64 by omega]
instance {b : List Nat} {ex : Bool} : PC Try.prog 100 [bytesN b ex] (b.length = 64) (.a ((spreadTo b 64).map wc)) := ⟨spread_c b ex⟩
end Go.Proofs.Ytbfjcohocedoaaa.Sh
namespace Go.Proofs.Ytbfjcohocedoaaa.Sh
open Go Go.RowKit Go.Aw Go.Aw.Sha
set_option linter.unusedVariables false
set_option linter.unusedSimpArgs false
set_option maxRecDepth 8000

/-- a byte's cell -/
abbrev bc (n : Nat) : AC := .p (.k .u8 (n : Int))
theorem digest_c (s : V8) : PCall Try.prog 93 [.a (v8 s)] (.a ((digest s).map bc)) := by
  refine pcall_of Try.func93 rfl (fun w0 F S0 M0 => ?_)
  repeat' (first | refine rnAW ?_ | refine rnS ?_ | refine rnG ?_ | refine rnU ?_ | ((fail_if_success (refine rnKn ?_)); refine rnP ?_ ?_ <;> (intro hq; try (have hq' := hq; simp only [hqs] at hq'))) | refine rkAW ?_ | refine rkS ?_ | refine rkF ?_ | refine rkU ?_ | ((fail_if_success (refine rkKn ?_)); refine rkP ?_ ?_ <;> (intro hq; try (have hq' := hq; simp only [hqs] at hq'))) | refine stp ?_ | refine ifT ?_ | refine ifF ?_ | (refine ifQ ?_ ?_ <;> (try (intro hn))) | (refine ifB ?_ ?_ <;> (intro hq; try (have hq' := hq; simp only [hqs] at hq'))))
  refine aws_loopS (7 :: [4, 5, 6, 8, 9, 10, 11, 12, 13, 14, 15, 16, 17, 18, 19, 20, 21, 22, 23, 24, 25, 26, 27]) [3] (fun (x : Nat × List Nat) => [(7, .a (s.list.map wc)), (8, .p (.i x.1))]) (fun x => [(3, (1, some (.box 123 (x.2.map bc))))])
    (fun x => x.1 ≤ 8 ∧ x.2 = digTo s (4 * x.1)) (fun x => 8 - x.1) (0, digTo s 0) ⟨Nat.zero_le _, rfl⟩ (by exact knA) (by exact knA) ?_
  rintro ⟨i, ds⟩ β γ ⟨hi, hds⟩
  simp only at hi hds
  have hdl : ds.length = 32 := by rw [hds]; exact digTo_len s _
  have hsl : s.list.length = 8 := rfl
  dsimp only
  repeat' (first | refine rnAW ?_ | refine rnS ?_ | refine rnG ?_ | refine rnU ?_ | ((fail_if_success (refine rnKn ?_)); refine rnP ?_ ?_ <;> (intro hq; try (have hq' := hq; simp only [hqs] at hq'))) | refine rkAW ?_ | refine rkS ?_ | refine rkF ?_ | refine rkU ?_ | ((fail_if_success (refine rkKn ?_)); refine rkP ?_ ?_ <;> (intro hq; try (have hq' := hq; simp only [hqs] at hq'))) | refine stp ?_ | refine ifT ?_ | refine ifF ?_ | (refine ifQ ?_ ?_ <;> (try (intro hn))) | (refine ifB ?_ ?_ <;> (intro hq; try (have hq' := hq; simp only [hqs] at hq'))))
  · refine aws_loopS [6, 12, 13, 14, 15, 16, 17, 18, 19, 20, 21, 22, 23, 24, 25, 26] [3] (fun (x : Nat × List Nat) => [(12, .p (.i x.1))]) (fun x => [(3, (1, some (.box 123 (x.2.map bc))))])
      (fun x => x.1 ≤ 4 ∧ x.2 = digTo s (4 * i + x.1)) (fun x => 4 - x.1) (0, ds) ⟨Nat.zero_le _, hds⟩ (by exact knA) (by exact knA) ?_
    rintro ⟨k, ds'⟩ β' γ' ⟨hk, hds'⟩
    simp only at hk hds'
    have hdl' : ds'.length = 32 := by rw [hds']; exact digTo_len s _
    dsimp only
    repeat' (first | refine rnAW ?_ | refine rnS ?_ | refine rnG ?_ | refine rnU ?_ | ((fail_if_success (refine rnKn ?_)); refine rnP ?_ ?_ <;> (intro hq; try (have hq' := hq; simp only [hqs] at hq'))) | refine rkAW ?_ | refine rkS ?_ | refine rkF ?_ | refine rkU ?_ | ((fail_if_success (refine rkKn ?_)); refine rkP ?_ ?_ <;> (intro hq; try (have hq' := hq; simp only [hqs] at hq'))) | refine stp ?_ | refine ifT ?_ | refine ifF ?_ | (refine ifQ ?_ ?_ <;> (try (intro hn))) | (refine ifB ?_ ?_ <;> (intro hq; try (have hq' := hq; simp only [hqs] at hq'))))
    · apply ex2 (k + 1)
      apply Exists.intro
      refine ⟨?_, ⟨?_, ?_⟩, .refl, ?_⟩
      rotate_left 3
      (focus exact frA)
      · dsimp only; omega
      · dsimp only; omega
      · dsimp only
        have e1 : (4 * (i : Int) + (k : Int)).toNat = 4 * i + k := by omega
        have e2 : ((24 : Int) - 8 * (k : Int)).toNat = 24 - 8 * k := by omega
        rw [e1, e2, Int.toNat_natCast, show 4 * i + (k + 1) = 4 * i + k + 1 from rfl, digTo, ← hds', show (4 * i + k) / 4 = i by omega, show (4 * i + k) % 4 = k by omega]
        rfl
    · refine ⟨(i + 1, ds'), _, by dsimp only; omega, ⟨by dsimp only; omega, ?_⟩, .refl, by exact frA⟩
      dsimp only; rw [hds']; congr 1; omega
  · refine rc1 rfl rfl rfl rfl rfl (by simpa using hdl) finL_p ?_
    rw [hds, show 4 * i = 32 by omega, digTo_all]
instance {s : V8} : PC Try.prog 93 [.a (v8 s)] True (.a ((digest s).map bc)) := ⟨fun _ => digest_c s⟩

theorem exV {p : Nat × V8 → Prop} (t : Nat) {a b c d e f g h : Nat} (H : p (t, ⟨a, b, c, d, e, f, g, h⟩)) : ∃ v, p v := ⟨_, H⟩
attribute [local irreducible] consts spreadTo steps Aw.Sha.step rotr
set_option maxHeartbeats 1000000 in
theorem block_c (s : V8) (b : List Nat) (ex : Bool) (h : b.length = 64) (hs : s.ok) : PCall Try.prog 92 [.a (v8 s), bytesN b ex] (.a (v8 (block s b))) := by
  refine pcall_of Try.func92 rfl (fun w0 F S0 M0 => ?_)
  repeat' (first | refine rnAW ?_ | refine rnS ?_ | refine rnG ?_ | refine rnU ?_ | ((fail_if_success (refine rnKn ?_)); refine rnP ?_ ?_ <;> (intro hq; try (have hq' := hq; simp only [hqs] at hq'))) | refine rkAW ?_ | refine rkS ?_ | refine rkF ?_ | refine rkU ?_ | ((fail_if_success (refine rkKn ?_)); refine rkP ?_ ?_ <;> (intro hq; try (have hq' := hq; simp only [hqs] at hq'))) | refine stp ?_ | refine ifT ?_ | refine ifF ?_ | (refine ifQ ?_ ?_ <;> (try (intro hn))) | (refine ifB ?_ ?_ <;> (intro hq; try (have hq' := hq; simp only [hqs] at hq'))))
  have hcl : consts.length = 64 := by with_unfolding_all rfl
  have hsl : (spreadTo b 64).length = 64 := spreadTo_len b 64
  refine aws_draws [(4, 5), (5, 6), (6, 7), (7, 5), (8, 6), (9, 7)] mixed (by kernel_rfl) ?_
  repeat' (first | refine rk_nil ?_ | refine rkAW ?_ | refine rkS ?_ | refine rkF ?_ | refine rkU ?_ | ((fail_if_success (refine rkKn ?_)); refine rkP ?_ ?_ <;> (intro hq; try (have hq' := hq; simp only [hqs] at hq'))))
  generalize hW : spreadTo b 64 = W at hsl ⊢
  repeat' (first | refine rnAW ?_ | refine rnS ?_ | refine rnG ?_ | refine rnU ?_ | ((fail_if_success (refine rnKn ?_)); refine rnP ?_ ?_ <;> (intro hq; try (have hq' := hq; simp only [hqs] at hq'))) | refine rkAW ?_ | refine rkS ?_ | refine rkF ?_ | refine rkU ?_ | ((fail_if_success (refine rkKn ?_)); refine rkP ?_ ?_ <;> (intro hq; try (have hq' := hq; simp only [hqs] at hq'))) | refine stp ?_ | refine ifT ?_ | refine ifF ?_ | (refine ifQ ?_ ?_ <;> (try (intro hn))) | (refine ifB ?_ ?_ <;> (intro hq; try (have hq' := hq; simp only [hqs] at hq'))))
  refine aws_loopS [8, 9, 10, 11, 12, 19, 20, 21, 22, 23, 24, 25, 26, 27, 28, 29, 30, 31, 32, 33, 34, 35, 36, 37, 38, 39, 40, 41, 42, 43, 44, 45, 46, 47, 48, 49, 50, 51, 52, 53, 54, 55, 56, 57, 58, 59, 60, 61, 62, 63, 64, 65, 66, 67, 68, 69, 70, 71, 72, 73, 74, 75, 76, 77, 78, 79, 80, 81, 82, 83, 84, 85, 86, 87, 88, 89, 90, 91, 92, 93, 94, 95, 96, 97, 98] [7] (fun (x : Nat × V8) => [(19, .p (.i x.1))]) (fun x => [(7, (1, some (.box 132 (v8 x.2))))])
    (fun x => x.1 ≤ 64 ∧ x.2 = steps W x.1 s) (fun x => 64 - x.1) (0, s) ⟨Nat.zero_le _, by with_unfolding_all rfl⟩ (by exact knA) (by exact knA) ?_
  rintro ⟨t, v⟩ β γ ⟨ht, hv⟩
  simp only at ht hv
  have hvk : v.ok := by rw [hv]; exact steps_ok hs W t
  obtain ⟨va, vb, vc, vd, ve, vf, vg, vh⟩ := v
  obtain ⟨ha, hb, hc, hd, he, hf, hg, hh⟩ := hvk
  simp only at ha hb hc hd he hf hg hh
  dsimp only
  repeat' (first | refine rnAW ?_ | refine rnS ?_ | refine rnG ?_ | refine rnU ?_ | ((fail_if_success (refine rnKn ?_)); refine rnP ?_ ?_ <;> (intro hq; try (have hq' := hq; simp only [hqs] at hq'))) | refine rkAW ?_ | refine rkS ?_ | refine rkF ?_ | refine rkU ?_ | ((fail_if_success (refine rkKn ?_)); refine rkP ?_ ?_ <;> (intro hq; try (have hq' := hq; simp only [hqs] at hq'))) | refine stp ?_ | refine ifT ?_ | refine ifF ?_ | (refine ifQ ?_ ?_ <;> (try (intro hn))) | (refine ifB ?_ ?_ <;> (intro hq; try (have hq' := hq; simp only [hqs] at hq'))))
  · refine aws_draws [] mixed (by kernel_rfl) ?_
    repeat' (first | refine rk_nil ?_ | refine rkAW ?_ | refine rkS ?_ | refine rkF ?_ | refine rkU ?_ | ((fail_if_success (refine rkKn ?_)); refine rkP ?_ ?_ <;> (intro hq; try (have hq' := hq; simp only [hqs] at hq'))))
    repeat' (first | refine rnAW ?_ | refine rnS ?_ | refine rnG ?_ | refine rnU ?_ | ((fail_if_success (refine rnKn ?_)); refine rnP ?_ ?_ <;> (intro hq; try (have hq' := hq; simp only [hqs] at hq'))) | refine rkAW ?_ | refine rkS ?_ | refine rkF ?_ | refine rkU ?_ | ((fail_if_success (refine rkKn ?_)); refine rkP ?_ ?_ <;> (intro hq; try (have hq' := hq; simp only [hqs] at hq'))) | refine stp ?_ | refine ifT ?_ | refine ifF ?_ | (refine ifQ ?_ ?_ <;> (try (intro hn))) | (refine ifB ?_ ?_ <;> (intro hq; try (have hq' := hq; simp only [hqs] at hq'))))
    refine aws_draws [] mixed (by kernel_rfl) ?_
    repeat' (first | refine rk_nil ?_ | refine rkAW ?_ | refine rkS ?_ | refine rkF ?_ | refine rkU ?_ | ((fail_if_success (refine rkKn ?_)); refine rkP ?_ ?_ <;> (intro hq; try (have hq' := hq; simp only [hqs] at hq'))))
    repeat' (first | refine rnAW ?_ | refine rnS ?_ | refine rnG ?_ | refine rnU ?_ | ((fail_if_success (refine rnKn ?_)); refine rnP ?_ ?_ <;> (intro hq; try (have hq' := hq; simp only [hqs] at hq'))) | refine rkAW ?_ | refine rkS ?_ | refine rkF ?_ | refine rkU ?_ | ((fail_if_success (refine rkKn ?_)); refine rkP ?_ ?_ <;> (intro hq; try (have hq' := hq; simp only [hqs] at hq'))) | refine stp ?_ | refine ifT ?_ | refine ifF ?_ | (refine ifQ ?_ ?_ <;> (try (intro hn))) | (refine ifB ?_ ?_ <;> (intro hq; try (have hq' := hq; simp only [hqs] at hq'))))
    refine aws_draws [] mixed (by kernel_rfl) ?_
    repeat' (first | refine rk_nil ?_ | refine rkAW ?_ | refine rkS ?_ | refine rkF ?_ | refine rkU ?_ | ((fail_if_success (refine rkKn ?_)); refine rkP ?_ ?_ <;> (intro hq; try (have hq' := hq; simp only [hqs] at hq'))))
    repeat' (first | refine rnAW ?_ | refine rnS ?_ | refine rnG ?_ | refine rnU ?_ | ((fail_if_success (refine rnKn ?_)); refine rnP ?_ ?_ <;> (intro hq; try (have hq' := hq; simp only [hqs] at hq'))) | refine rkAW ?_ | refine rkS ?_ | refine rkF ?_ | refine rkU ?_ | ((fail_if_success (refine rkKn ?_)); refine rkP ?_ ?_ <;> (intro hq; try (have hq' := hq; simp only [hqs] at hq'))) | refine stp ?_ | refine ifT ?_ | refine ifF ?_ | (refine ifQ ?_ ?_ <;> (try (intro hn))) | (refine ifB ?_ ?_ <;> (intro hq; try (have hq' := hq; simp only [hqs] at hq'))))
    apply exV (t + 1)
    apply Exists.intro
    refine ⟨?_, ⟨?_, ?_⟩, .refl, ?_⟩
    rotate_left 3
    (focus exact frA)
    · dsimp only; omega
    · dsimp only; omega
    · have e : steps W (t + 1) s = Aw.Sha.step (steps W t s) (consts.getD t default) (W.getD t default) := by with_unfolding_all rfl
      dsimp only
      rw [e, ← hv, Int.toNat_natCast]
      unfold Aw.Sha.step stepX stepY
      rfl
  · repeat' (first | refine rnAW ?_ | refine rnS ?_ | refine rnG ?_ | refine rnU ?_ | ((fail_if_success (refine rnKn ?_)); refine rnP ?_ ?_ <;> (intro hq; try (have hq' := hq; simp only [hqs] at hq'))) | refine rkAW ?_ | refine rkS ?_ | refine rkF ?_ | refine rkU ?_ | ((fail_if_success (refine rkKn ?_)); refine rkP ?_ ?_ <;> (intro hq; try (have hq' := hq; simp only [hqs] at hq'))) | refine stp ?_ | refine ifT ?_ | refine ifF ?_ | (refine ifQ ?_ ?_ <;> (try (intro hn))) | (refine ifB ?_ ?_ <;> (intro hq; try (have hq' := hq; simp only [hqs] at hq'))))
    have ht64 : t = 64 := by omega
    subst ht64
    generalize hV : (V8.mk va vb vc vd ve vf vg vh) = V at hv
    refine aws_loopS (99 :: [13, 14, 100, 101, 102, 103, 104, 105, 106, 107, 108, 109, 110]) [2] (fun (x : Nat × List Nat) => [(99, .a (V.list.map wc)), (100, .p (.i x.1))]) (fun x => [(2, (1, some (.box 132 (x.2.map wc))))])
      (fun x => x.1 ≤ 8 ∧ x.2 = addTo s V x.1) (fun x => 8 - x.1) (0, addTo s V 0) ⟨Nat.zero_le _, rfl⟩ (by subst hV; exact knA) (by exact knA) ?_
    rintro ⟨i, ds⟩ β' γ' ⟨hi, hds⟩
    simp only at hi hds
    have hdl : ds.length = 8 := by rw [hds]; exact addTo_len s V _
    have hVl : V.list.length = 8 := rfl
    dsimp only
    repeat' (first | refine rnAW ?_ | refine rnS ?_ | refine rnG ?_ | refine rnU ?_ | ((fail_if_success (refine rnKn ?_)); refine rnP ?_ ?_ <;> (intro hq; try (have hq' := hq; simp only [hqs] at hq'))) | refine rkAW ?_ | refine rkS ?_ | refine rkF ?_ | refine rkU ?_ | ((fail_if_success (refine rkKn ?_)); refine rkP ?_ ?_ <;> (intro hq; try (have hq' := hq; simp only [hqs] at hq'))) | refine stp ?_ | refine ifT ?_ | refine ifF ?_ | (refine ifQ ?_ ?_ <;> (try (intro hn))) | (refine ifB ?_ ?_ <;> (intro hq; try (have hq' := hq; simp only [hqs] at hq'))))
    · apply ex2 (i + 1)
      apply Exists.intro
      refine ⟨?_, ⟨?_, ?_⟩, .refl, ?_⟩
      rotate_left 3
      (focus exact frA)
      · dsimp only; omega
      · dsimp only; omega
      · dsimp only
        rw [addTo, ← hds, Int.toNat_natCast]; rfl
    · refine rc1 rfl rfl rfl rfl rfl (by simpa using hdl) finL_p ?_
      have hi8 : i = 8 := by omega
      rw [hds, hi8, addTo_all, hv, ← hW]
      rfl
theorem block_ok (s : V8) (b : List Nat) : (block s b).ok := addV_ok _ _
instance {s : V8} {b : List Nat} {ex : Bool} : PC Try.prog 92 [.a (v8 s), bytesN b ex] (b.length = 64 ∧ s.ok) (.a (v8 (block s b))) := ⟨fun h => block_c s b ex h.1 h.2⟩
end Go.Proofs.Ytbfjcohocedoaaa.Sh
namespace Go.Proofs.Ytbfjcohocedoaaa.Sh
open Go Go.RowKit Go.Aw Go.Aw.Sha
set_option linter.unusedVariables false
set_option linter.unusedSimpArgs false
set_option maxRecDepth 8000

theorem grow_c (n : Int) (h : 0 ≤ n ∧ n ≤ 1000000000000) : OCall Try.prog 112 [.p (.v (.slice none 0 0)), .p (.i n)] (fun _ => (0, none)) (.o (.osl 22 0 1 0 0)) (memL [(22, (1, some (.buf 5 1 [])))]) := by
  refine ocall_ofF 22 Try.func112 rfl (fun w0 F S0 M0 => ?_)
  repeat' (first | refine rnA ?_ | refine rnS ?_ | refine rnG ?_ | refine rnU ?_ | ((fail_if_success (refine rnKn ?_)); refine rnP ?_ ?_ <;> (intro hq; try (have hq' := hq; simp only [hqs] at hq'))) | refine rkA ?_ | refine rkS ?_ | refine rkF ?_ | refine rkU ?_ | ((fail_if_success (refine rkKn ?_)); refine rkP ?_ ?_ <;> (intro hq; try (have hq' := hq; simp only [hqs] at hq'))) | refine stp ?_ | refine ifT ?_ | refine ifF ?_ | (refine ifQ ?_ ?_ <;> (try (intro hn))) | (refine ifB ?_ ?_ <;> (intro hq; try (have hq' := hq; simp only [hqs] at hq'))))
  · exfalso; omega
  · refine rn_any (gd_n rfl rfl) rfl (lop_cap_nil rfl rfl rfl) ?_
    repeat' (first | refine rnA ?_ | refine rnS ?_ | refine rnG ?_ | refine rnU ?_ | ((fail_if_success (refine rnKn ?_)); refine rnP ?_ ?_ <;> (intro hq; try (have hq' := hq; simp only [hqs] at hq'))) | refine rkA ?_ | refine rkS ?_ | refine rkF ?_ | refine rkU ?_ | ((fail_if_success (refine rkKn ?_)); refine rkP ?_ ?_ <;> (intro hq; try (have hq' := hq; simp only [hqs] at hq'))) | refine stp ?_ | refine ifT ?_ | refine ifF ?_ | fail)
    refine ifB ?_ ?_ <;> (intro hq; simp only [hqs] at hq)
    · repeat' (first | refine rnA ?_ | refine rnS ?_ | refine rnG ?_ | refine rnU ?_ | ((fail_if_success (refine rnKn ?_)); refine rnP ?_ ?_ <;> (intro hq; try (have hq' := hq; simp only [hqs] at hq'))) | refine rkA ?_ | refine rkS ?_ | refine rkF ?_ | refine rkU ?_ | ((fail_if_success (refine rkKn ?_)); refine rkP ?_ ?_ <;> (intro hq; try (have hq' := hq; simp only [hqs] at hq'))) | refine stp ?_ | refine ifT ?_ | refine ifF ?_ | (refine ifQ ?_ ?_ <;> (try (intro hn))) | (refine ifB ?_ ?_ <;> (intro hq; try (have hq' := hq; simp only [hqs] at hq'))))
      refine rn_any (gd_n rfl rfl) rfl (lop_cap_nil rfl rfl rfl) ?_
      refine rn_any (gd_n rfl rfl) rfl (lop_sl_n0 rfl rfl rfl rfl) ?_
      repeat' (first | refine rnA ?_ | refine rnS ?_ | refine rnG ?_ | refine rnU ?_ | ((fail_if_success (refine rnKn ?_)); refine rnP ?_ ?_ <;> (intro hq; try (have hq' := hq; simp only [hqs] at hq'))) | refine rkA ?_ | refine rkS ?_ | refine rkF ?_ | refine rkU ?_ | ((fail_if_success (refine rkKn ?_)); refine rkP ?_ ?_ <;> (intro hq; try (have hq' := hq; simp only [hqs] at hq'))) | refine stp ?_ | refine ifT ?_ | refine ifF ?_ | (refine ifQ ?_ ?_ <;> (try (intro hn))) | (refine ifB ?_ ?_ <;> (intro hq; try (have hq' := hq; simp only [hqs] at hq'))))
      refine rn_any (gd_n rfl rfl) rfl (lop_ap_z (m := n.toNat) rfl rfl rfl rfl (by omega) rfl (by decide) rfl (by omega) (by simp only [maxLen]; omega) (by omega) rfl) ?_
      repeat' (first | refine rnA ?_ | refine rnS ?_ | refine rnG ?_ | refine rnU ?_ | ((fail_if_success (refine rnKn ?_)); refine rnP ?_ ?_ <;> (intro hq; try (have hq' := hq; simp only [hqs] at hq'))) | refine rkA ?_ | refine rkS ?_ | refine rkF ?_ | refine rkU ?_ | ((fail_if_success (refine rkKn ?_)); refine rkP ?_ ?_ <;> (intro hq; try (have hq' := hq; simp only [hqs] at hq'))) | refine stp ?_ | refine ifT ?_ | refine ifF ?_ | (refine ifQ ?_ ?_ <;> (try (intro hn))) | (refine ifB ?_ ?_ <;> (intro hq; try (have hq' := hq; simp only [hqs] at hq'))))
      refine rn_any (gd_n rfl rfl) rfl (lop_sl_oh rfl rfl rfl (by omega) (by omega) rfl) ?_
      repeat' (first | refine rnA ?_ | refine rnS ?_ | refine rnG ?_ | refine rnU ?_ | ((fail_if_success (refine rnKn ?_)); refine rnP ?_ ?_ <;> (intro hq; try (have hq' := hq; simp only [hqs] at hq'))) | refine rkA ?_ | refine rkS ?_ | refine rkF ?_ | refine rkU ?_ | ((fail_if_success (refine rkKn ?_)); refine rkP ?_ ?_ <;> (intro hq; try (have hq' := hq; simp only [hqs] at hq'))) | refine stp ?_ | refine ifT ?_ | refine ifF ?_ | (refine ifQ ?_ ?_ <;> (try (intro hn))) | (refine ifB ?_ ?_ <;> (intro hq; try (have hq' := hq; simp only [hqs] at hq'))))
      exact RetO.mk (ot1 rfl rfl (.one (.kosl rfl)) rfl) ⟨.buf, trivial⟩
    · refine aws_says (says_nil (t := 0) (o := 22) (ty := 5) (es := 1) rfl rfl (by decide)) ?_
      repeat' (first | refine rnA ?_ | refine rnS ?_ | refine rnG ?_ | refine rnU ?_ | ((fail_if_success (refine rnKn ?_)); refine rnP ?_ ?_ <;> (intro hq; try (have hq' := hq; simp only [hqs] at hq'))) | refine rkA ?_ | refine rkS ?_ | refine rkF ?_ | refine rkU ?_ | ((fail_if_success (refine rkKn ?_)); refine rkP ?_ ?_ <;> (intro hq; try (have hq' := hq; simp only [hqs] at hq'))) | refine stp ?_ | refine ifT ?_ | refine ifF ?_ | (refine ifQ ?_ ?_ <;> (try (intro hn))) | (refine ifB ?_ ?_ <;> (intro hq; try (have hq' := hq; simp only [hqs] at hq'))))
      exact RetO.mk (ot1 rfl rfl (.one (.kosl rfl)) rfl) ⟨.buf, trivial⟩
instance {c k : Nat} {n : Int} : OC Try.prog 112 [.p (.v (.slice none 0 0)), .p (.i n)] [] [(c, k)] (0 ≤ n ∧ n ≤ 1000000000000) (.o (.osl c k 1 0 0)) [(c, (k + 1, some (.buf 5 1 [])))] := ⟨fun h => (grow_c n h).fresh1 c k⟩

/-- texts, one behind the other -/
abbrev pieceR (p : List Nat × Bool) : List PVal := [PVal.sl 1 (p.1.map fun n : Nat => [PVal.k .u8 (n : Int)]) p.2]
abbrev pieces (ls : List (List Nat × Bool)) (ex : Bool) : AV := .p (.sl 1 (ls.map pieceR) ex)
def flat (ls : List (List Nat × Bool)) (i : Nat) : List Nat := (ls.take i).flatMap (·.1)
theorem flat_succ (ls : List (List Nat × Bool)) {i : Nat} (h : i < ls.length) : flat ls (i + 1) = flat ls i ++ (ls.getD i default).1 := by
  unfold flat
  rw [List.take_succ_eq_append_getElem h, List.flatMap_append]
  simp [List.getD_eq_getElem?_getD, h]
theorem flat_all (ls : List (List Nat × Bool)) : flat ls ls.length = ls.flatMap (·.1) := by unfold flat; rw [List.take_length]
theorem flat_le (ls : List (List Nat × Bool)) (i : Nat) : (flat ls i).length ≤ (ls.flatMap (·.1)).length := by
  conv => rhs; rw [← List.take_append_drop i ls, List.flatMap_append, List.length_append]
  exact Nat.le_add_right _ _

theorem concat_c (ls : List (List Nat × Bool)) (ex : Bool) (h : (ls.flatMap (·.1)).length ≤ 1000000000 ∧ ls.length ≤ 1000000000) :
    OCall Try.prog 98 [pieces ls ex] (fun _ => (0, none)) (.o (.osl 24 ls.length 1 0 (ls.flatMap (·.1)).length)) (memL [(24, (ls.length + 1, some (.buf 5 1 ((ls.flatMap (·.1)).map fun n : Nat => [PVal.k .u8 (n : Int)]))))]) := by
  refine ocall_ofF 24 Try.func98 rfl (fun w0 F S0 M0 => ?_)
  obtain ⟨hf, hl⟩ := h
  repeat' (first | refine rnA ?_ | refine rnS ?_ | refine rnG ?_ | refine rnU ?_ | ((fail_if_success (refine rnKn ?_)); refine rnP ?_ ?_ <;> (intro hq; try (have hq' := hq; simp only [hqs] at hq'))) | refine rkA ?_ | refine rkS ?_ | refine rkF ?_ | refine rkU ?_ | ((fail_if_success (refine rkKn ?_)); refine rkP ?_ ?_ <;> (intro hq; try (have hq' := hq; simp only [hqs] at hq'))) | refine stp ?_ | refine ifT ?_ | refine ifF ?_ | (refine ifQ ?_ ?_ <;> (try (intro hn))) | (refine ifB ?_ ?_ <;> (intro hq; try (have hq' := hq; simp only [hqs] at hq'))))
  refine aws_loopS [3, 5, 11, 12, 13, 14, 15, 16, 17, 18, 19, 20, 21, 22] [] (fun (x : Nat × Int) => [(11, .p (.i x.1)), (3, .p (.i x.2))]) (fun x => [])
    (fun x => x.1 ≤ ls.length ∧ x.2 = ((flat ls x.1).length : Int)) (fun x => ls.length - x.1) (0, 0) ⟨Nat.zero_le _, rfl⟩ (by exact knA) (by exact knA) ?_
  rintro ⟨i, n⟩ β γ ⟨hi, hn⟩
  simp only at hi hn
  have hfl := flat_le ls i
  have hfs : i < ls.length → (flat ls i).length + (ls.getD (i : Int).toNat default).1.length ≤ 1000000000 := fun hlt => by
    have h1 := flat_le ls (i + 1)
    rw [flat_succ ls hlt, List.length_append] at h1
    rw [Int.toNat_natCast]
    omega
  dsimp only
  repeat' (first | refine rnA ?_ | refine rnS ?_ | refine rnG ?_ | refine rnU ?_ | ((fail_if_success (refine rnKn ?_)); refine rnP ?_ ?_ <;> (intro hq; try (have hq' := hq; simp only [hqs] at hq'))) | refine rkA ?_ | refine rkS ?_ | refine rkF ?_ | refine rkU ?_ | ((fail_if_success (refine rkKn ?_)); refine rkP ?_ ?_ <;> (intro hq; try (have hq' := hq; simp only [hqs] at hq'))) | refine stp ?_ | refine ifT ?_ | refine ifF ?_ | (refine ifQ ?_ ?_ <;> (try (intro hn))) | (refine ifB ?_ ?_ <;> (intro hq; try (have hq' := hq; simp only [hqs] at hq'))))
  · exfalso; omega
  · apply ex2 (i + 1)
    apply Exists.intro
    refine ⟨?_, ⟨?_, ?_⟩, .refl, ?_⟩
    rotate_left 3
    (focus exact frA)
    · dsimp only; omega
    · dsimp only; omega
    · dsimp only
      rw [flat_succ ls (by omega), List.length_append, hn, Int.toNat_natCast]
      omega
  · have hil : i = ls.length := by omega
    refine aws_loopS (6 :: [6, 8, 27, 28, 29, 30, 31, 32, 33, 34]) [24] (fun (x : Nat × List Nat) => [(27, .p (.i x.1)), (6, .o (.osl 24 x.1 1 0 x.2.length))]) (fun x => [(24, (x.1 + 1, some (.buf 5 1 (x.2.map fun n : Nat => [PVal.k .u8 (n : Int)]))))])
      (fun x => x.1 ≤ ls.length ∧ x.2 = flat ls x.1) (fun x => ls.length - x.1) (0, []) ⟨Nat.zero_le _, rfl⟩ (by exact knA) (by exact knA) ?_
    rintro ⟨k, fs⟩ β' γ' ⟨hk, hfk⟩
    simp only at hk hfk
    have hfl' := flat_le ls k
    have hfs' : k < ls.length → fs.length + (ls.getD (k : Int).toNat default).1.length ≤ 1000000000 := fun hlt => by
      have h1 := flat_le ls (k + 1)
      rw [flat_succ ls hlt, List.length_append] at h1
      rw [Int.toNat_natCast, hfk]
      omega
    dsimp only
    repeat' (first | refine rnA ?_ | refine rnS ?_ | refine rnG ?_ | refine rnU ?_ | ((fail_if_success (refine rnKn ?_)); refine rnP ?_ ?_ <;> (intro hq; try (have hq' := hq; simp only [hqs] at hq'))) | refine rkA ?_ | refine rkS ?_ | refine rkF ?_ | refine rkU ?_ | ((fail_if_success (refine rkKn ?_)); refine rkP ?_ ?_ <;> (intro hq; try (have hq' := hq; simp only [hqs] at hq'))) | refine stp ?_ | refine ifT ?_ | refine ifF ?_ | (refine ifQ ?_ ?_ <;> (try (intro hn))) | (refine ifB ?_ ?_ <;> (intro hq; try (have hq' := hq; simp only [hqs] at hq'))))
    · apply ex2 (k + 1)
      apply Exists.intro
      refine ⟨?_, ⟨?_, ?_⟩, .refl, ?_⟩
      rotate_left 3
      (focus exact frA)
      · dsimp only; omega
      · dsimp only; omega
      · dsimp only
        rw [flat_succ ls (by omega), hfk, Int.toNat_natCast]
    · have hkl : k = ls.length := by omega
      have hfa : fs = ls.flatMap (·.1) := by rw [hfk, hkl, flat_all]
      subst hfa hkl
      exact RetO.mk (ot1 rfl rfl (.one (.kosl rfl)) rfl) ⟨.buf, trivial⟩
instance {c k : Nat} {ls : List (List Nat × Bool)} {ex : Bool} : OC Try.prog 98 [pieces ls ex] [] [(c, k)] ((ls.flatMap (·.1)).length ≤ 1000000000 ∧ ls.length ≤ 1000000000)
    (.o (.osl c (k + ls.length) 1 0 (ls.flatMap (·.1)).length)) [(c, (k + (ls.length + 1), some (.buf 5 1 ((ls.flatMap (·.1)).map fun n : Nat => [PVal.k .u8 (n : Int)]))))] := ⟨fun h => (concat_c ls ex h).fresh1 c k⟩
end Go.Proofs.Ytbfjcohocedoaaa.Sh
namespace Go.Proofs.Ytbfjcohocedoaaa.Sh
open Go Go.RowKit Go.Aw Go.Aw.Sha
set_option linter.unusedVariables false
set_option linter.unusedSimpArgs false
set_option maxRecDepth 8000

abbrev br (n : Nat) : List PVal := [PVal.k .u8 (n : Int)]
theorem padded_c (ls : List (List Nat × Bool)) (ex : Bool) (h : (ls.flatMap (·.1)).length ≤ 500000000 ∧ ls.length ≤ 1000000000) :
    PCall Try.prog 91 [pieces ls ex] (bytesN (pad (ls.flatMap (·.1))) false) := by
  refine pcall_of Try.func91 rfl (fun w0 F S0 M0 => ?_)
  obtain ⟨hf, hl⟩ := h
  have hf' : (ls.flatMap (·.1)).length ≤ 1000000000 := by omega
  repeat' (first | refine rnAW ?_ | refine rnS ?_ | refine rnG ?_ | refine rnU ?_ | ((fail_if_success (refine rnKn ?_)); refine rnP ?_ ?_ <;> (intro hq; try (have hq' := hq; simp only [hqs] at hq'))) | refine rkAW ?_ | refine rkS ?_ | refine rkF ?_ | refine rkU ?_ | ((fail_if_success (refine rkKn ?_)); refine rkP ?_ ?_ <;> (intro hq; try (have hq' := hq; simp only [hqs] at hq'))) | refine stp ?_ | refine ifT ?_ | refine ifF ?_ | (refine ifQ ?_ ?_ <;> (try (intro hn))) | (refine ifB ?_ ?_ <;> (intro hq; try (have hq' := hq; simp only [hqs] at hq'))))
  generalize hL : (ls.flatMap (·.1)) = L at hf hf' ⊢
  refine aws_loopS (3 :: [3, 15, 16, 17, 18, 19, 20, 21]) [7] (fun (x : Nat × List Nat) => [(3, .o (.osl 7 (0 + (ls.length + 1) + x.1) 1 0 x.2.length))]) (fun x => [(7, (0 + (ls.length + 1) + x.1 + 1, some (.buf 5 1 (x.2.map br))))])
    (fun x => x.1 ≤ zeros L.length ∧ x.2 = L ++ [128] ++ List.replicate x.1 0) (fun x => zeros L.length - x.1) (0, L ++ [128]) ⟨Nat.zero_le _, by simp⟩ (by exact knA) (by exact knA) ?_
  rintro ⟨j, bs⟩ β γ ⟨hj, hb⟩
  simp only at hj hb
  have hz : zeros L.length ≤ 63 := by unfold zeros; omega
  have hbl : bs.length = L.length + 1 + j := by rw [hb]; simp; omega
  have hzj : ((bs.length : Int) % 64 = 56 ∧ j = zeros L.length) ∨ (¬ (bs.length : Int) % 64 = 56 ∧ j < zeros L.length) := by
    rw [hbl]; unfold zeros at hj ⊢; omega
  dsimp only
  repeat' (first | refine rnA ?_ | refine rnS ?_ | refine rnG ?_ | refine rnU ?_ | ((fail_if_success (refine rnKn ?_)); refine rnP ?_ ?_ <;> (intro hq; try (have hq' := hq; simp only [hqs] at hq'))) | refine rkA ?_ | refine rkS ?_ | refine rkF ?_ | refine rkU ?_ | ((fail_if_success (refine rkKn ?_)); refine rkP ?_ ?_ <;> (intro hq; try (have hq' := hq; simp only [hqs] at hq'))) | refine stp ?_ | refine aws_draws [] mixed (by kernel_rfl) ?_ | refine ifT ?_ | refine ifF ?_ | (refine ifQ ?_ ?_ <;> (try (intro hn))) | (refine ifB ?_ ?_ <;> (intro hq; try (have hq' := hq; simp only [hqs] at hq'))))
  · apply ex2 (j + 1)
    apply Exists.intro
    refine ⟨?_, ⟨?_, ?_⟩, .refl, ?_⟩
    rotate_left 3
    (focus exact frA)
    · dsimp only; omega
    · dsimp only; omega
    · dsimp only
      rw [hb, List.replicate_succ']; simp
  · have hjz : j = zeros L.length := by omega
    refine aws_loopS (3 :: [3, 5, 22, 23, 24, 25, 26, 27, 28, 29, 30, 31, 32, 33]) [7] (fun (x : Nat × Int × List Nat) => [(5, .p (.i x.2.1)), (3, .o (.osl 7 (0 + (ls.length + 1) + j + x.1) 1 0 x.2.2.length))]) (fun x => [(7, (0 + (ls.length + 1) + j + x.1 + 1, some (.buf 5 1 (x.2.2.map br))))])
      (fun x => x.1 ≤ 8 ∧ x.2.1 = 7 - (x.1 : Int) ∧ x.2.2 = bs ++ (lenBytes L.length).take x.1) (fun x => 8 - x.1) (0, 7, bs) ⟨Nat.zero_le _, rfl, by simp⟩ (by exact knA) (by exact knA) ?_
    rintro ⟨k, t, cs⟩ β' γ' ⟨hk, ht, hc⟩
    simp only at hk ht hc
    have hll : (lenBytes L.length).length = 8 := by simp [lenBytes]
    have hcl : cs.length = bs.length + k := by rw [hc, List.length_append, List.length_take, hll]; omega
    dsimp only
    repeat' (first | refine rnAW ?_ | refine rnS ?_ | refine rnG ?_ | refine rnU ?_ | ((fail_if_success (refine rnKn ?_)); refine rnP ?_ ?_ <;> (intro hq; try (have hq' := hq; simp only [hqs] at hq'))) | refine rkAW ?_ | refine rkS ?_ | refine rkF ?_ | refine rkU ?_ | ((fail_if_success (refine rkKn ?_)); refine rkP ?_ ?_ <;> (intro hq; try (have hq' := hq; simp only [hqs] at hq'))) | refine stp ?_ | refine ifT ?_ | refine ifF ?_ | (refine ifQ ?_ ?_ <;> (try (intro hn))) | (refine ifB ?_ ?_ <;> (intro hq; try (have hq' := hq; simp only [hqs] at hq'))))
    · apply ex3 (k + 1) (t - 1)
      apply Exists.intro
      refine ⟨?_, ⟨?_, ?_, ?_⟩, .refl, ?_⟩
      rotate_left 4
      (focus exact frA)
      · dsimp only; omega
      · dsimp only; omega
      · dsimp only; omega
      · have e : (8 * t).toNat = 8 * (7 - k) := by omega
        have em : L.length % md .u64 = L.length := Nat.mod_eq_of_lt (by show L.length < 18446744073709551616; omega)
        dsimp only
        rw [hc, e, em, List.append_assoc, List.take_succ_eq_append_getElem (by rw [hll]; omega)]
        simp only [lenBytes, List.getElem_map, List.getElem_range]
        rfl
    · have hk8 : k = 8 := by omega
      refine rt1 rfl rfl (.one (finC_map rfl rfl rfl rfl)) (rs ?_)
      rw [hc, hb, hjz, hk8, List.take_of_length_le (by rw [hll]; omega)]
      rfl
instance {ls : List (List Nat × Bool)} {ex : Bool} : PC Try.prog 91 [pieces ls ex] ((ls.flatMap (·.1)).length ≤ 500000000 ∧ ls.length ≤ 1000000000) (bytesN (pad (ls.flatMap (·.1))) false) := ⟨padded_c ls ex⟩
end Go.Proofs.Ytbfjcohocedoaaa.Sh
namespace Go.Proofs.Ytbfjcohocedoaaa.Sh
open Go Go.RowKit Go.Aw Go.Aw.Sha
set_option linter.unusedVariables false
set_option linter.unusedSimpArgs false
set_option maxRecDepth 8000

abbrev bytesP (l : List Nat) (ex : Bool) : PVal := .sl 1 (l.map br) ex
theorem chunk_c (b : List Nat) (ex : Bool) (n : Int) (h : 1 ≤ n) : PCall Try.prog 90 [bytesN b ex, .p (.i n)] (.p (.fnv 97 [.bx [bytesP b ex] 0, .bx [.i n] 0])) := by
  refine pcall_of Try.func90 rfl (fun w0 F S0 M0 => ?_)
  repeat' (first | refine rnA ?_ | refine rnS ?_ | refine rnG ?_ | refine rnU ?_ | ((fail_if_success (refine rnKn ?_)); refine rnP ?_ ?_ <;> (intro hq; try (have hq' := hq; simp only [hqs] at hq'))) | refine rkA ?_ | refine rkS ?_ | refine rkF ?_ | refine rkU ?_ | ((fail_if_success (refine rkKn ?_)); refine rkP ?_ ?_ <;> (intro hq; try (have hq' := hq; simp only [hqs] at hq'))) | refine stp ?_ | refine ifT ?_ | refine ifF ?_ | (refine ifQ ?_ ?_ <;> (try (intro hn))) | (refine ifB ?_ ?_ <;> (intro hq; try (have hq' := hq; simp only [hqs] at hq'))))
  · exfalso; omega
  · exact rt1 rfl rfl finS_p rfl
instance {b : List Nat} {ex : Bool} {n : Int} : PC Try.prog 90 [bytesN b ex, .p (.i n)] (1 ≤ n) (.p (.fnv 97 [.bx [bytesP b ex] 0, .bx [.i n] 0])) := ⟨chunk_c b ex n⟩

/-- the blocks of a text, n bytes each, the last one maybe less -/
def chunkAt (b : List Nat) (n i : Nat) : List Nat := (b.drop (n * i)).take n
set_option maxHeartbeats 1000000 in
theorem chunks_c (b : List Nat) (ex : Bool) (m : Nat) (h : b.length = 64 * m) (hb : b.length ≤ 1000000000) : ICall Try.prog 97 [.bx [bytesP b ex] 0, .bx [.i 64] 0] ((List.range m).map fun i => bytesN (chunkAt b 64 i) true) := by
  refine icall_of Try.func97 rfl (fun w0 F S0 M0 I yv hone hY => ?_)
  simp only [List.length_map, List.length_range]
  repeat' (first | refine rnA ?_ | refine rnS ?_ | refine rnG ?_ | refine rnU ?_ | ((fail_if_success (refine rnKn ?_)); refine rnP ?_ ?_ <;> (intro hq; try (have hq' := hq; simp only [hqs] at hq'))) | refine rkA ?_ | refine rkS ?_ | refine rkF ?_ | refine rkU ?_ | ((fail_if_success (refine rkKn ?_)); refine rkP ?_ ?_ <;> (intro hq; try (have hq' := hq; simp only [hqs] at hq'))) | refine stp ?_ | refine ifT ?_ | refine ifF ?_ | (refine ifQ ?_ ?_ <;> (try (intro hn))) | (refine ifB ?_ ?_ <;> (intro hq; try (have hq' := hq; simp only [hqs] at hq'))))
  refine aws_loopS [4, 5, 6, 7, 8, 9, 10, 11, 12, 13, 14, 15, 16, 17, 18, 19, 20, 21, 22, 23, 24, 25, 26, 27, 28, 29, 30] [1000] (fun (x : Nat × Int) => [(4, .p (.i x.2))]) (fun x => [(1000, (1, some (.abs (I x.1))))])
    (fun x => x.1 ≤ m ∧ x.2 = 64 * (x.1 : Int)) (fun x => m - x.1) (0, 0) ⟨Nat.zero_le _, rfl⟩ (by exact knA) (by exact knA) ?_
  rintro ⟨i, t⟩ β γ ⟨hi, ht⟩
  simp only at hi ht
  dsimp only
  repeat' (first | refine rnA ?_ | refine rnS ?_ | refine rnG ?_ | refine rnU ?_ | ((fail_if_success (refine rnKn ?_)); refine rnP ?_ ?_ <;> (intro hq; try (have hq' := hq; simp only [hqs] at hq'))) | refine rkA ?_ | refine rkS ?_ | refine rkF ?_ | refine rkU ?_ | ((fail_if_success (refine rkKn ?_)); refine rkP ?_ ?_ <;> (intro hq; try (have hq' := hq; simp only [hqs] at hq'))) | refine stp ?_ | refine ifT ?_ | refine ifF ?_ | (refine ifQ ?_ ?_ <;> (try (intro hn))) | (refine ifB ?_ ?_ <;> (intro hq; try (have hq' := hq; simp only [hqs] at hq'))))
  · have him : i < m := by omega
    have hdl : (b.drop t.toNat).length = 64 * (m - i) := by rw [List.length_drop, h]; omega
    refine aws_draws [] mixed (by kernel_rfl) ?_
    repeat' (first | refine rk_nil ?_ | refine rkA ?_ | refine rkS ?_ | refine rkF ?_ | refine rkU ?_ | ((fail_if_success (refine rkKn ?_)); refine rkP ?_ ?_ <;> (intro hq; try (have hq' := hq; simp only [hqs] at hq'))))
    repeat' (first | refine rnA ?_ | refine rnS ?_ | refine rnG ?_ | refine rnU ?_ | ((fail_if_success (refine rnKn ?_)); refine rnP ?_ ?_ <;> (intro hq; try (have hq' := hq; simp only [hqs] at hq'))) | refine rkA ?_ | refine rkS ?_ | refine rkF ?_ | refine rkU ?_ | ((fail_if_success (refine rkKn ?_)); refine rkP ?_ ?_ <;> (intro hq; try (have hq' := hq; simp only [hqs] at hq'))) | refine stp ?_ | refine ifT ?_ | refine ifF ?_ | (refine ifQ ?_ ?_ <;> (try (intro hn))) | (refine ifB ?_ ?_ <;> (intro hq; try (have hq' := hq; simp only [hqs] at hq'))))
    refine rn_any (gd_n rfl rfl) rfl (lop_yield (av := bytesN (chunkAt b 64 i) true) (m0 := (1, some (.abs (I i)))) (m1 := (1, some (.abs (I (i + 1))))) rfl rfl (rs ?_) rfl (hY i _ (by simp [him])) rfl) ?_
    · show _ = (b.drop (64 * i)).take 64
      rw [show t.toNat = 64 * i by omega] at hdl ⊢
      congr 1
      simp only [hdl] at *
      omega
    repeat' (first | refine rnA ?_ | refine rnS ?_ | refine rnG ?_ | refine rnU ?_ | ((fail_if_success (refine rnKn ?_)); refine rnP ?_ ?_ <;> (intro hq; try (have hq' := hq; simp only [hqs] at hq'))) | refine rkA ?_ | refine rkS ?_ | refine rkF ?_ | refine rkU ?_ | ((fail_if_success (refine rkKn ?_)); refine rkP ?_ ?_ <;> (intro hq; try (have hq' := hq; simp only [hqs] at hq'))) | refine stp ?_ | refine ifT ?_ | refine ifF ?_ | (refine ifQ ?_ ?_ <;> (try (intro hn))) | (refine ifB ?_ ?_ <;> (intro hq; try (have hq' := hq; simp only [hqs] at hq'))))
    apply ex2 (i + 1)
    apply Exists.intro
    refine ⟨?_, ⟨?_, ?_⟩, .refl, ?_⟩
    rotate_left 3
    (focus exact frA)
    · dsimp only; omega
    · dsimp only; omega
    · dsimp only; omega
  · have him : i = m := by omega
    subst him
    show RetO _ _ _ _ _ .ret _
    exact RetO.mk (res0 rfl rfl) ⟨.abs, trivial⟩
instance {b : List Nat} {ex : Bool} : IC Try.prog 97 [.bx [bytesP b ex] 0, .bx [.i 64] 0] (b.length = 64 * (b.length / 64) ∧ b.length ≤ 1000000000) ((List.range (b.length / 64)).map fun i => bytesN (chunkAt b 64 i) true) := ⟨fun h => chunks_c b ex _ h.1 h.2⟩
end Go.Proofs.Ytbfjcohocedoaaa.Sh
namespace Go.Proofs.Ytbfjcohocedoaaa.Sh
open Go Go.RowKit Go.Aw Go.Aw.Sha
set_option linter.unusedVariables false
set_option linter.unusedSimpArgs false
set_option maxRecDepth 8000

theorem pad_len (b : List Nat) : (pad b).length = b.length + 1 + zeros b.length + 8 := by simp [pad, lenBytes]; omega
theorem pad_64 (b : List Nat) : (pad b).length = 64 * ((pad b).length / 64) := by rw [pad_len]; unfold zeros; omega
theorem blocks_succ (P : List Nat) (j : Nat) : blocks P (j + 1) = block (blocks P j) (chunkAt P 64 j) := rfl
theorem blocks_zero (P : List Nat) : firstV = blocks P 0 := rfl
theorem sum_def (b : List Nat) : sum b = digest (blocks (pad b) ((pad b).length / 64)) := rfl
theorem Agr.put' {σ τ : St} {W M : List Nat} {o : Nat} {m : Nat × Option MO} (h : Agr σ W (o :: M) τ) : Agr (σ.put o m) W M (τ.put o m) := ⟨h.env, fun t ht => by
  by_cases e : t = o
  · subst e; simp [St.put]
  · have hb : Nat.beq t o = false := Bool.eq_false_iff.2 (fun k => e (Nat.eq_of_beq_eq_true k))
    have := h.mem t (by simp only [memb, hb, ht, Bool.or_self])
    simp [St.put, e, this]⟩
attribute [local irreducible] pad blocks block sum
theorem sum_c (ls : List (List Nat × Bool)) (ex : Bool) (h : (ls.flatMap (·.1)).length ≤ 500000000 ∧ ls.length ≤ 1000000000) :
    PCall Try.prog 83 [pieces ls ex] (.a ((sum (ls.flatMap (·.1))).map bc)) := by
  refine pcall_of Try.func83 rfl (fun w0 F S0 M0 => ?_)
  have hp : (pad (ls.flatMap (·.1))).length ≤ 1000000000 := by rw [pad_len]; unfold zeros; omega
  have hp64 := pad_64 (ls.flatMap (·.1))
  have hsum : sum (ls.flatMap (·.1)) = digest (blocks (pad (ls.flatMap (·.1))) ((pad (ls.flatMap (·.1))).length / 64)) := sum_def _
  repeat' (first | refine rnA ?_ | refine rnS ?_ | refine rnG ?_ | refine rnU ?_ | ((fail_if_success (refine rnKn ?_)); refine rnP ?_ ?_ <;> (intro hq; try (have hq' := hq; simp only [hqs] at hq'))) | refine rkA ?_ | refine rkS ?_ | refine rkF ?_ | refine rkU ?_ | ((fail_if_success (refine rkKn ?_)); refine rkP ?_ ?_ <;> (intro hq; try (have hq' := hq; simp only [hqs] at hq'))) | refine stp ?_ | refine ifT ?_ | refine ifF ?_ | (refine ifQ ?_ ?_ <;> (try (intro hn))) | (refine ifB ?_ ?_ <;> (intro hq; try (have hq' := hq; simp only [hqs] at hq'))))
  generalize hP : pad (ls.flatMap (·.1)) = P at hp hp64 hsum ⊢
  refine aws_block ?_
  refine aws_range (ι := V8) [9, 4, 10, 11, 12] [3] (fun v => [(3, (1, some (.box 132 (v8 v))))]) (fun j v => v = blocks P j) firstV rfl inferInstance (chunks_c P false (P.length / 64) hp64 hp) rfl ?_ rfl rfl (fun i => rfl) rfl (blocks_zero P) (by exact knA) ?_ ?_
  · intro x hx
    simp only [List.mem_map] at hx
    obtain ⟨i, _, rfl⟩ := hx
    exact inferInstance
  · intro j x hjx v γ w0 F S0 M0 l R R' hv
    rw [List.getElem?_map] at hjx
    have hj : j < P.length / 64 := by
      by_cases hlt : j < P.length / 64
      · exact hlt
      · rw [List.getElem?_eq_none (by simp; omega)] at hjx; cases hjx
    rw [List.getElem?_range hj] at hjx
    obtain rfl := Option.some.inj hjx
    have hcl : (chunkAt P 64 j).length = 64 := by simp only [chunkAt, List.length_take, List.length_drop]; omega
    have hvo : v.ok := by rw [hv]; exact blocks_ok P j
    obtain ⟨B, hB⟩ : ∃ B, B = block v (chunkAt P 64 j) := ⟨_, rfl⟩
    have hbc : PCall Try.prog 92 [.a (v8 v), bytesN (chunkAt P 64 j) true] (.a (v8 B)) := by rw [hB]; exact block_c v _ true hcl hvo
    haveI : PC Try.prog 92 [.a (v8 v), bytesN (chunkAt P 64 j) true] True (.a (v8 B)) := ⟨fun _ => hbc⟩
    repeat' (first | refine rnA ?_ | refine rnS ?_ | refine rnG ?_ | refine rnU ?_ | ((fail_if_success (refine rnKn ?_)); refine rnP ?_ ?_ <;> (intro hq; try (have hq' := hq; simp only [hqs] at hq'))) | refine rkA ?_ | refine rkS ?_ | refine rkF ?_ | refine rkU ?_ | ((fail_if_success (refine rkKn ?_)); refine rkP ?_ ?_ <;> (intro hq; try (have hq' := hq; simp only [hqs] at hq'))) | refine stp ?_ | refine ifT ?_ | refine ifF ?_ | (refine ifQ ?_ ?_ <;> (try (intro hn))) | (refine ifB ?_ ?_ <;> (intro hq; try (have hq' := hq; simp only [hqs] at hq'))))
    refine ⟨rfl, rfl, ?_⟩
    repeat' (first | refine rnA ?_ | refine rnS ?_ | refine rnG ?_ | refine rnU ?_ | ((fail_if_success (refine rnKn ?_)); refine rnP ?_ ?_ <;> (intro hq; try (have hq' := hq; simp only [hqs] at hq'))) | refine rkA ?_ | refine rkS ?_ | refine rkF ?_ | refine rkU ?_ | ((fail_if_success (refine rkKn ?_)); refine rkP ?_ ?_ <;> (intro hq; try (have hq' := hq; simp only [hqs] at hq'))) | refine stp ?_ | refine ifT ?_ | refine ifF ?_ | (refine ifQ ?_ ?_ <;> (try (intro hn))) | (refine ifB ?_ ?_ <;> (intro hq; try (have hq' := hq; simp only [hqs] at hq'))))
    refine ⟨rfl, B, _, ?_, .refl, Fr'.mk ?_ (by exact knA) (by exact knA)⟩
    rotate_left 1
    · repeat' (first | exact Agr.refl | refine Agr.appg rfl rfl ?_ | refine Agr.appgn rfl ?_ | refine Agr.set rfl ?_ | refine Agr.put rfl ?_ | refine Agr.put' ?_ | refine Agr.fr ?_ (memb_sub rfl) (memb_sub rfl) rfl rfl)
    · show B = blocks P (j + 1)
      rw [blocks_succ, ← hv, hB]
  · intro v γ hv
    simp only [List.length_map, List.length_range] at hv
    repeat' (first | refine rnA ?_ | refine rnS ?_ | refine rnG ?_ | refine rnU ?_ | ((fail_if_success (refine rnKn ?_)); refine rnP ?_ ?_ <;> (intro hq; try (have hq' := hq; simp only [hqs] at hq'))) | refine rkA ?_ | refine rkS ?_ | refine rkF ?_ | refine rkU ?_ | ((fail_if_success (refine rkKn ?_)); refine rkP ?_ ?_ <;> (intro hq; try (have hq' := hq; simp only [hqs] at hq'))) | refine stp ?_ | refine ifT ?_ | refine ifF ?_ | (refine ifQ ?_ ?_ <;> (try (intro hn))) | (refine ifB ?_ ?_ <;> (intro hq; try (have hq' := hq; simp only [hqs] at hq'))))
    refine rc1 rfl rfl rfl rfl rfl (by simp [digest]) finL_p ?_
    rw [hsum, ← hv]
instance {ls : List (List Nat × Bool)} {ex : Bool} : PC Try.prog 83 [pieces ls ex] ((ls.flatMap (·.1)).length ≤ 500000000 ∧ ls.length ≤ 1000000000) (.a ((sum (ls.flatMap (·.1))).map bc)) := ⟨sum_c ls ex⟩
end Go.Proofs.Ytbfjcohocedoaaa.Sh
namespace Go.Proofs.Ytbfjcohocedoaaa.Sh
open Go Go.RowKit Go.Aw Go.Aw.Sha
set_option linter.unusedVariables false
set_option linter.unusedSimpArgs false
set_option maxRecDepth 8000
attribute [local irreducible] sum

theorem sum1_c (l : List Nat) (e1 e : Bool) (h : l.length ≤ 500000000) : PCall Try.prog 83 [.p (.sl 1 [[bytesP l e1]] e)] (.a ((sum l).map bc)) := by
  have := sum_c [(l, e1)] e ⟨by simpa using h, by simp⟩
  rwa [show ([(l, e1)] : List (List Nat × Bool)).flatMap (·.1) = l by simp] at this
theorem sum2_c (a b : List Nat) (e1 e2 e : Bool) (h : a.length + b.length ≤ 500000000) : PCall Try.prog 83 [.p (.sl 1 [[bytesP a e1], [bytesP b e2]] e)] (.a ((sum (a ++ b)).map bc)) := by
  have := sum_c [(a, e1), (b, e2)] e ⟨by simpa using h, by simp⟩
  rwa [show ([(a, e1), (b, e2)] : List (List Nat × Bool)).flatMap (·.1) = a ++ b by simp] at this
instance {l : List Nat} {e1 e : Bool} : PC Try.prog 83 [.p (.sl 1 [[bytesP l e1]] e)] (l.length ≤ 500000000) (.a ((sum l).map bc)) := ⟨sum1_c l e1 e⟩
/-- a leaf's texts: a zero byte, and what is given -/
instance {b : List Nat} {e2 e : Bool} : PC Try.prog 83 [.p (.sl 1 [[.sl 1 [[.v (.int .u8 0)]] true], [bytesP b e2]] e)] (b.length ≤ 400000000) (.a ((sum (0 :: b)).map bc)) := ⟨fun h => sum2_c [0] b true e2 e (by simp only [List.length_cons, List.length_nil]; omega)⟩
end Go.Proofs.Ytbfjcohocedoaaa.Sh
