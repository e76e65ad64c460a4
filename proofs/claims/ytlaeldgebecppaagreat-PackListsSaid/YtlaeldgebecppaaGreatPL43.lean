/- packs: alive of 10; packs: what is written is bytes -/
import Derived.Test.YtlaeldgebecppaaGreatPL42
import Derived.Test.YtlaeldgebecppaaGreatPL41
namespace Go.Proofs.YtlaeldgebecppaaGreat.Wi
open Go Go.RowKit Go.Aw Go.Aw.Cart Go.Proofs.YtlaeldgebecppaaGreat.Ca
set_option linter.unusedVariables false
set_option linter.unusedSimpArgs false
set_option maxRecDepth 8000
set_option maxHeartbeats 4000000
open WE
/-- an own slice of bytes, as a string -/
theorem lop_cv_os {C : Ctx} {o : Oper} {σ : St} {s d e : TypeId} {x : Operand} {sz by_ sz' by' sze be : Nat} {ob g n len ty : Nat} {rows : List (List PVal)} {b : List Nat} (ho : o.op = .convert s d x) (hS : TI C.P s (.slice e) sz by_) (hE : TI C.P e (.int .u8) sze be) (hD : TI C.P d .string sz' by') (hx : σ.look x = .o (.osl ob g 1 0 len)) (hm : σ.mem ob = (n, some (.buf ty 1 rows))) (hn : n = g + 1)
    (hr : rows = b.map fun n : Nat => [PVal.v (.int .u8 n)]) (hl : len = b.length) (h0 : 0 < len) (hd : dOk C o.dst = true) : LOp C o σ ⟨.p (.v (.string (strOf b))), []⟩ (fun y => y == ob) :=
  lop_val hd fun τ a w G hl' hm' h => by
    subst hn hr
    obtain ⟨m, c, h1, h2, h3⟩ := look_of h ((hl' x (by simp [ho, Op.operands])).trans hx)
    obtain ⟨g', m', hg, hmm, hes, hmax, hrl, hh⟩ := h.mem ob _ _ (by rw [hm' ob (by simp)]; exact hm)
    obtain rfl : g = g' := by omega
    rw [h1] at hmm; obtain rfl := Option.some.inj hmm
    simp only at hmax hrl hh
    obtain ⟨ds, hds, hks⟩ := hS.undd
    have : ds = .slice e := by cases ds <;> simp [TK.of] at hks; rw [hks]
    subst this
    obtain ⟨de, hde, hke⟩ := hE.undd
    have : de = .int .u8 := by cases de <;> simp [TK.of] at hke; rw [hke]
    subst this
    obtain ⟨dd, hdd, hkd⟩ := hD.undd
    have : dd = .string := by cases dd <;> simp [TK.of] at hkd; rfl
    subst this
    have hstr : strOfNums (b.map fun n : Nat => (n : Int)) = strOf b := by
      unfold strOfNums strOf
      rw [List.map_map]; rfl
    rcases hh with ⟨k1, k2, _⟩ | ⟨bk, arr, k1, k2, k3, k4, k5⟩
    · omega
    · subst k1
      simp only [Option.map_some, Nat.zero_mul, Nat.sub_zero] at h3
      refine ⟨.string (strOf b), ?_, rfl, rfl⟩
      have key : (convert s d (.slice (some ⟨bk, 0, none⟩) len c)).run C.P w = .ok (.string (strOf b)) w := by
        rw [← hstr]
        refine run_convert_bytes_arg w s e hds hde bk 0 len c (b.map fun n : Nat => (n : Int)) (by simp [hl]) (fun i hi => ?_) d hdd
        have hi' : i < b.length := by omega
        have hr : (b.map fun n : Nat => [PVal.v (.int .u8 n)])[i]? = some [PVal.v (.int .u8 (b[i] : Nat))] := by simp [hi']
        obtain ⟨_, q2⟩ := k5 i _ hr
        obtain ⟨c', hc, hcc⟩ := q2 0 _ rfl
        obtain ⟨rfl, _⟩ := hcc
        rw [cell_of_row w bk _ arr ty _ k3]
        simp only [Nat.mul_one, Nat.add_zero, Nat.zero_add] at hc ⊢
        rw [hc]
        simp [List.getD_eq_getElem?_getD, hi']
      simp only [execOp, ho, h3, Sem.run_bind, key, Result.andThen_ok, Sem.run_pure]
theorem alive10_w : PCall Tryz.prog 27 [] (.p (.b true)) := by
  refine pcall_of Tryz.func27 rfl (fun w0 F S0 M0 => ?_)
  obtain ⟨B, hB⟩ : ∃ B, B = cartB c10 := ⟨_, rfl⟩
  obtain ⟨Z, hZ⟩ : ∃ Z, Z = cartB (zeroV, []) := ⟨_, rfl⟩
  obtain ⟨L, hL⟩ : ∃ L : List Kd, L = [([98], c10)] := ⟨_, rfl⟩
  obtain ⟨L2, hL2⟩ : ∃ L2 : List Kd, L2 = l10 := ⟨_, rfl⟩
  obtain ⟨S, hS⟩ : ∃ S, S = listB l10 := ⟨_, rfl⟩
  have hw1 : PC Tryz.prog 75 [.a [.p (.k .u64 1), .p (.k .u64 0), .p (.k .u64 0), .p (.k .u64 0), .p (.k .u64 0), .p (.k .u64 0), .p (.k .u64 0), .p (.k .u64 0), .p (.sl 4 [[.i 5, .i 1, .k .u64 1, .i 2]] true)]] True (.tup [.one (.p (.sl 1 (B.map bR) false)), .one (.p (.i 0))]) := ⟨fun _ => w1 B hB⟩
  have hw2 : PC Tryz.prog 75 [.a [.p (.k .u64 0), .p (.k .u64 0), .p (.k .u64 0), .p (.k .u64 0), .p (.k .u64 0), .p (.k .u64 0), .p (.k .u64 0), .p (.k .u64 0), .p (.sl 4 [[.i 5, .i 1, .k .u64 1, .i 2]] true)]] True (.tup [.one (.p (.sl 1 (([] : List Nat).map bR) false)), .one (.p (.i 3))]) := ⟨fun _ => w2⟩
  have hw3 : PC Tryz.prog 75 [.a [.p (.k .u64 0), .p (.k .u64 0), .p (.k .u64 0), .p (.k .u64 0), .p (.k .u64 0), .p (.k .u64 0), .p (.k .u64 0), .p (.k .u64 0), .p (.v (.slice none 0 0))]] True (.tup [.one (.p (.sl 1 (Z.map bR) false)), .one (.p (.i 0))]) := ⟨fun _ => w3 Z hZ⟩
  have hr1 : PC Tryz.prog 76 [.p (.sl 1 (B.map bR) false)] True (.tup [.agg [.p (.k .u64 1), .p (.k .u64 0), .p (.k .u64 0), .p (.k .u64 0), .p (.k .u64 0), .p (.k .u64 0), .p (.k .u64 0), .p (.k .u64 0), .p (.sl 4 [[.i 5, .i 1, .k .u64 1, .i 2]] false)], .one (.p (.i 0))]) := ⟨fun _ => r1 B hB⟩
  have hl1 : PC Tryz.prog 77 [.p (.v (.slice none 0 0)), .p (.v (.string { data := #[98] })), .a [.p (.k .u64 1), .p (.k .u64 0), .p (.k .u64 0), .p (.k .u64 0), .p (.k .u64 0), .p (.k .u64 0), .p (.k .u64 0), .p (.k .u64 0), .p (.sl 4 [[.i 5, .i 1, .k .u64 1, .i 2]] true)]] True (.p (.sl 10 (L.map kR) false)) := ⟨fun _ => l1 L hL⟩
  have hl2 : PC Tryz.prog 77 [.p (.sl 10 (L.map kR) false), .p (.v (.string { data := #[97] })), .a [.p (.k .u64 0), .p (.k .u64 0), .p (.k .u64 0), .p (.k .u64 0), .p (.k .u64 0), .p (.k .u64 0), .p (.k .u64 0), .p (.k .u64 0), .p (.v (.slice none 0 0))]] True (.p (.sl 10 (L2.map kR) false)) := ⟨fun _ => l2 L L2 hL hL2⟩
  have hs1 : PC Tryz.prog 28 [.p (.sl 10 (L2.map kR) false)] True (.tup [.one (.p (.sl 1 (S.map bR) false)), .one (.p (.i 0))]) := ⟨fun _ => s1 L2 S hL2 hS⟩
  have hs2 : PC Tryz.prog 29 [.p (.sl 1 (S.map bR) false)] True (.tup [.one (.p (.sl 10 (L2.map kR) false)), .one (.p (.i 0))]) := ⟨fun _ => s2 L2 S hL2 hS l10_bytes.1 l10_bytes.2⟩
  have hf1 : PC Tryz.prog 78 [.p (.sl 10 (L2.map kR) false), .p (.v (.string { data := #[98] }))] True (.tup [.agg [.p (.k .u64 1), .p (.k .u64 0), .p (.k .u64 0), .p (.k .u64 0), .p (.k .u64 0), .p (.k .u64 0), .p (.k .u64 0), .p (.k .u64 0), .p (.sl 4 [[.i 5, .i 1, .k .u64 1, .i 2]] false)], .one (.p (.b true))]) := ⟨fun _ => f1 L2 hL2⟩
  have kB : okB [1, 1, 0, 0, 0, 0, 0, 0, 0, 1, 1, 1, 5, 1, 1, 1, 1, 1, 4] := by intro c hc; simp at hc; omega
  have kZ : okB [0, 0, 0, 0, 0, 0, 0, 0, 0] := by intro c hc; simp at hc; omega
  have bB : okB B := by rw [hB, c10_bytes]; exact kB
  have bZ : okB Z := by rw [hZ, z10_bytes]; exact kZ
  have dB : decide (B = [1, 1, 0, 0, 0, 0, 0, 0, 0, 1, 1, 1, 5, 1, 1, 1, 1, 1, 4]) = true := decide_eq_true (by rw [hB, c10_bytes])
  have dZ : decide (Z = [0, 0, 0, 0, 0, 0, 0, 0, 0]) = true := decide_eq_true (by rw [hZ, z10_bytes])
  have hm1 : PC Tryz.prog 79 [.a [.p (.k .u64 1), .p (.k .u64 0), .p (.k .u64 0), .p (.k .u64 0), .p (.k .u64 0), .p (.k .u64 0), .p (.k .u64 0), .p (.k .u64 0), .p (.sl 4 [[.i 5, .i 1, .k .u64 1, .i 2]] true)], .a [.p (.k .u64 1), .p (.k .u64 0), .p (.k .u64 0), .p (.k .u64 0), .p (.k .u64 0), .p (.k .u64 0), .p (.k .u64 0), .p (.k .u64 0), .p (.sl 4 [[.i 5, .i 1, .k .u64 1, .i 2]] false)]] True (.p (.b true)) := ⟨fun _ => same_w c10.1 c10.1 c10.2 c10.2 true false rfl rfl (by decide)⟩
  have hm2 : PC Tryz.prog 79 [.a [.p (.k .u64 1), .p (.k .u64 0), .p (.k .u64 0), .p (.k .u64 0), .p (.k .u64 0), .p (.k .u64 0), .p (.k .u64 0), .p (.k .u64 0), .p (.sl 4 [[.i 5, .i 1, .k .u64 1, .i 2]] false)], .a [.p (.k .u64 1), .p (.k .u64 0), .p (.k .u64 0), .p (.k .u64 0), .p (.k .u64 0), .p (.k .u64 0), .p (.k .u64 0), .p (.k .u64 0), .p (.sl 4 [[.i 5, .i 1, .k .u64 1, .i 2]] true)]] True (.p (.b true)) := ⟨fun _ => same_w c10.1 c10.1 c10.2 c10.2 false true rfl rfl (by decide)⟩
  have kA : okB (L2.getD (Int.toNat 0) default).1 := by rw [hL2]; exact ok97
  have dA : decide ((L2.getD (Int.toNat 0) default).1 = [97]) = true := decide_eq_true (by rw [hL2]; rfl)
  have hll : L2.length = 2 := by rw [hL2]; rfl
  have dL : decide ((L2.length : Int) = 2) = true := by rw [hL2]; rfl
  clear hB hZ hL hS
  repeat' (first | refine rnC ?_ | refine rnSB ?_ | refine rnG ?_ | refine rnU ?_ | ((fail_if_success (refine rnKn ?_)); refine rnP ?_ ?_ <;> (intro hq; try (have hq' := hq; simp only [hqs] at hq'))) | refine rkC ?_ | refine rkSB ?_ | refine rkF ?_ | refine rkU ?_ | ((fail_if_success (refine rkKn ?_)); refine rkP ?_ ?_ <;> (intro hq; try (have hq' := hq; simp only [hqs] at hq'))) | refine stp ?_ | refine ifT ?_ | refine ifF ?_ | (refine ifQ ?_ ?_ <;> (try (intro hn))) | (refine ifB ?_ ?_ <;> (intro hq; try (have hq' := hq; simp only [hqs] at hq'))))
  try (first | refine rn_any (gd_n rfl rfl) rfl (lop_call1 (by rfl) inferInstance (by rfl) (by infer_instance) hw1 True.intro (by rfl)) ?_ | refine rn_any (gd_n rfl rfl) rfl (lop_call1 (by rfl) inferInstance (by rfl) (by infer_instance) hw2 True.intro (by rfl)) ?_ | refine rn_any (gd_n rfl rfl) rfl (lop_call3 (by rfl) inferInstance (by rfl) (by rfl) (by rfl) (by infer_instance) hl1 True.intro (by rfl)) ?_ | refine rn_any (gd_n rfl rfl) rfl (lop_call3 (by rfl) inferInstance (by rfl) (by rfl) (by rfl) (by infer_instance) hl2 True.intro (by rfl)) ?_ | refine rn_any (gd_n rfl rfl) rfl (lop_call1 (by rfl) inferInstance (by rfl) (by infer_instance) hs1 True.intro (by rfl)) ?_ | refine rn_any (gd_n rfl rfl) rfl (lop_call1 (by rfl) inferInstance (by rfl) (by infer_instance) hs2 True.intro (by rfl)) ?_ | refine rn_any (gd_n rfl rfl) rfl (lop_call2 (by rfl) inferInstance (by rfl) (by rfl) (by infer_instance) hf1 True.intro (by rfl)) ?_ | refine rn_any (gd_n rfl rfl) rfl (lop_call1 (by rfl) inferInstance (by rfl) (by infer_instance) hw3 True.intro (by rfl)) ?_ | refine rn_any (gd_n rfl rfl) rfl (lop_call1 (by rfl) inferInstance (by rfl) (by infer_instance) hr1 True.intro (by rfl)) ?_)
  repeat' (first | refine rnC ?_ | refine rnSB ?_ | refine rnG ?_ | refine rnU ?_ | ((fail_if_success (refine rnKn ?_)); refine rnP ?_ ?_ <;> (intro hq; try (have hq' := hq; simp only [hqs] at hq'))) | refine rkC ?_ | refine rkSB ?_ | refine rkF ?_ | refine rkU ?_ | ((fail_if_success (refine rkKn ?_)); refine rkP ?_ ?_ <;> (intro hq; try (have hq' := hq; simp only [hqs] at hq'))) | refine stp ?_ | refine ifT ?_ | refine ifF ?_ | (refine ifQ ?_ ?_ <;> (try (intro hn))) | (refine ifB ?_ ?_ <;> (intro hq; try (have hq' := hq; simp only [hqs] at hq'))))
  try (first | refine rn_any (gd_n rfl rfl) rfl (lop_call1 (by rfl) inferInstance (by rfl) (by infer_instance) hw1 True.intro (by rfl)) ?_ | refine rn_any (gd_n rfl rfl) rfl (lop_call1 (by rfl) inferInstance (by rfl) (by infer_instance) hw2 True.intro (by rfl)) ?_ | refine rn_any (gd_n rfl rfl) rfl (lop_call3 (by rfl) inferInstance (by rfl) (by rfl) (by rfl) (by infer_instance) hl1 True.intro (by rfl)) ?_ | refine rn_any (gd_n rfl rfl) rfl (lop_call3 (by rfl) inferInstance (by rfl) (by rfl) (by rfl) (by infer_instance) hl2 True.intro (by rfl)) ?_ | refine rn_any (gd_n rfl rfl) rfl (lop_call1 (by rfl) inferInstance (by rfl) (by infer_instance) hs1 True.intro (by rfl)) ?_ | refine rn_any (gd_n rfl rfl) rfl (lop_call1 (by rfl) inferInstance (by rfl) (by infer_instance) hs2 True.intro (by rfl)) ?_ | refine rn_any (gd_n rfl rfl) rfl (lop_call2 (by rfl) inferInstance (by rfl) (by rfl) (by infer_instance) hf1 True.intro (by rfl)) ?_ | refine rn_any (gd_n rfl rfl) rfl (lop_call1 (by rfl) inferInstance (by rfl) (by infer_instance) hw3 True.intro (by rfl)) ?_ | refine rn_any (gd_n rfl rfl) rfl (lop_call1 (by rfl) inferInstance (by rfl) (by infer_instance) hr1 True.intro (by rfl)) ?_)
  repeat' (first | refine rnC ?_ | refine rnSB ?_ | refine rnG ?_ | refine rnU ?_ | ((fail_if_success (refine rnKn ?_)); refine rnP ?_ ?_ <;> (intro hq; try (have hq' := hq; simp only [hqs] at hq'))) | refine rkC ?_ | refine rkSB ?_ | refine rkF ?_ | refine rkU ?_ | ((fail_if_success (refine rkKn ?_)); refine rkP ?_ ?_ <;> (intro hq; try (have hq' := hq; simp only [hqs] at hq'))) | refine stp ?_ | refine ifT ?_ | refine ifF ?_ | (refine ifQ ?_ ?_ <;> (try (intro hn))) | (refine ifB ?_ ?_ <;> (intro hq; try (have hq' := hq; simp only [hqs] at hq'))))
  try (first | refine rn_any (gd_n rfl rfl) rfl (lop_call1 (by rfl) inferInstance (by rfl) (by infer_instance) hw1 True.intro (by rfl)) ?_ | refine rn_any (gd_n rfl rfl) rfl (lop_call1 (by rfl) inferInstance (by rfl) (by infer_instance) hw2 True.intro (by rfl)) ?_ | refine rn_any (gd_n rfl rfl) rfl (lop_call3 (by rfl) inferInstance (by rfl) (by rfl) (by rfl) (by infer_instance) hl1 True.intro (by rfl)) ?_ | refine rn_any (gd_n rfl rfl) rfl (lop_call3 (by rfl) inferInstance (by rfl) (by rfl) (by rfl) (by infer_instance) hl2 True.intro (by rfl)) ?_ | refine rn_any (gd_n rfl rfl) rfl (lop_call1 (by rfl) inferInstance (by rfl) (by infer_instance) hs1 True.intro (by rfl)) ?_ | refine rn_any (gd_n rfl rfl) rfl (lop_call1 (by rfl) inferInstance (by rfl) (by infer_instance) hs2 True.intro (by rfl)) ?_ | refine rn_any (gd_n rfl rfl) rfl (lop_call2 (by rfl) inferInstance (by rfl) (by rfl) (by infer_instance) hf1 True.intro (by rfl)) ?_ | refine rn_any (gd_n rfl rfl) rfl (lop_call1 (by rfl) inferInstance (by rfl) (by infer_instance) hw3 True.intro (by rfl)) ?_ | refine rn_any (gd_n rfl rfl) rfl (lop_call1 (by rfl) inferInstance (by rfl) (by infer_instance) hr1 True.intro (by rfl)) ?_)
  repeat' (first | refine rnC ?_ | refine rnSB ?_ | refine rnG ?_ | refine rnU ?_ | ((fail_if_success (refine rnKn ?_)); refine rnP ?_ ?_ <;> (intro hq; try (have hq' := hq; simp only [hqs] at hq'))) | refine rkC ?_ | refine rkSB ?_ | refine rkF ?_ | refine rkU ?_ | ((fail_if_success (refine rkKn ?_)); refine rkP ?_ ?_ <;> (intro hq; try (have hq' := hq; simp only [hqs] at hq'))) | refine stp ?_ | refine ifT ?_ | refine ifF ?_ | (refine ifQ ?_ ?_ <;> (try (intro hn))) | (refine ifB ?_ ?_ <;> (intro hq; try (have hq' := hq; simp only [hqs] at hq'))))
  try (first | refine rn_any (gd_n rfl rfl) rfl (lop_call1 (by rfl) inferInstance (by rfl) (by infer_instance) hw1 True.intro (by rfl)) ?_ | refine rn_any (gd_n rfl rfl) rfl (lop_call1 (by rfl) inferInstance (by rfl) (by infer_instance) hw2 True.intro (by rfl)) ?_ | refine rn_any (gd_n rfl rfl) rfl (lop_call3 (by rfl) inferInstance (by rfl) (by rfl) (by rfl) (by infer_instance) hl1 True.intro (by rfl)) ?_ | refine rn_any (gd_n rfl rfl) rfl (lop_call3 (by rfl) inferInstance (by rfl) (by rfl) (by rfl) (by infer_instance) hl2 True.intro (by rfl)) ?_ | refine rn_any (gd_n rfl rfl) rfl (lop_call1 (by rfl) inferInstance (by rfl) (by infer_instance) hs1 True.intro (by rfl)) ?_ | refine rn_any (gd_n rfl rfl) rfl (lop_call1 (by rfl) inferInstance (by rfl) (by infer_instance) hs2 True.intro (by rfl)) ?_ | refine rn_any (gd_n rfl rfl) rfl (lop_call2 (by rfl) inferInstance (by rfl) (by rfl) (by infer_instance) hf1 True.intro (by rfl)) ?_ | refine rn_any (gd_n rfl rfl) rfl (lop_call1 (by rfl) inferInstance (by rfl) (by infer_instance) hw3 True.intro (by rfl)) ?_ | refine rn_any (gd_n rfl rfl) rfl (lop_call1 (by rfl) inferInstance (by rfl) (by infer_instance) hr1 True.intro (by rfl)) ?_)
  repeat' (first | refine rnC ?_ | refine rnSB ?_ | refine rnG ?_ | refine rnU ?_ | ((fail_if_success (refine rnKn ?_)); refine rnP ?_ ?_ <;> (intro hq; try (have hq' := hq; simp only [hqs] at hq'))) | refine rkC ?_ | refine rkSB ?_ | refine rkF ?_ | refine rkU ?_ | ((fail_if_success (refine rkKn ?_)); refine rkP ?_ ?_ <;> (intro hq; try (have hq' := hq; simp only [hqs] at hq'))) | refine stp ?_ | refine ifT ?_ | refine ifF ?_ | (refine ifQ ?_ ?_ <;> (try (intro hn))) | (refine ifB ?_ ?_ <;> (intro hq; try (have hq' := hq; simp only [hqs] at hq'))))
  try (first | refine rn_any (gd_n rfl rfl) rfl (lop_call1 (by rfl) inferInstance (by rfl) (by infer_instance) hw1 True.intro (by rfl)) ?_ | refine rn_any (gd_n rfl rfl) rfl (lop_call1 (by rfl) inferInstance (by rfl) (by infer_instance) hw2 True.intro (by rfl)) ?_ | refine rn_any (gd_n rfl rfl) rfl (lop_call3 (by rfl) inferInstance (by rfl) (by rfl) (by rfl) (by infer_instance) hl1 True.intro (by rfl)) ?_ | refine rn_any (gd_n rfl rfl) rfl (lop_call3 (by rfl) inferInstance (by rfl) (by rfl) (by rfl) (by infer_instance) hl2 True.intro (by rfl)) ?_ | refine rn_any (gd_n rfl rfl) rfl (lop_call1 (by rfl) inferInstance (by rfl) (by infer_instance) hs1 True.intro (by rfl)) ?_ | refine rn_any (gd_n rfl rfl) rfl (lop_call1 (by rfl) inferInstance (by rfl) (by infer_instance) hs2 True.intro (by rfl)) ?_ | refine rn_any (gd_n rfl rfl) rfl (lop_call2 (by rfl) inferInstance (by rfl) (by rfl) (by infer_instance) hf1 True.intro (by rfl)) ?_ | refine rn_any (gd_n rfl rfl) rfl (lop_call1 (by rfl) inferInstance (by rfl) (by infer_instance) hw3 True.intro (by rfl)) ?_ | refine rn_any (gd_n rfl rfl) rfl (lop_call1 (by rfl) inferInstance (by rfl) (by infer_instance) hr1 True.intro (by rfl)) ?_)
  repeat' (first | refine rnC ?_ | refine rnSB ?_ | refine rnG ?_ | refine rnU ?_ | ((fail_if_success (refine rnKn ?_)); refine rnP ?_ ?_ <;> (intro hq; try (have hq' := hq; simp only [hqs] at hq'))) | refine rkC ?_ | refine rkSB ?_ | refine rkF ?_ | refine rkU ?_ | ((fail_if_success (refine rkKn ?_)); refine rkP ?_ ?_ <;> (intro hq; try (have hq' := hq; simp only [hqs] at hq'))) | refine stp ?_ | refine ifT ?_ | refine ifF ?_ | (refine ifQ ?_ ?_ <;> (try (intro hn))) | (refine ifB ?_ ?_ <;> (intro hq; try (have hq' := hq; simp only [hqs] at hq'))))
  refine aws_draws [(55, 117)] mixed (by kernel_rfl) ?_
  repeat' (first | refine rnC ?_ | refine rnSB ?_ | refine rnG ?_ | refine rnU ?_ | ((fail_if_success (refine rnKn ?_)); refine rnP ?_ ?_ <;> (intro hq; try (have hq' := hq; simp only [hqs] at hq'))) | refine rkC ?_ | refine rkSB ?_ | refine rkF ?_ | refine rkU ?_ | ((fail_if_success (refine rkKn ?_)); refine rkP ?_ ?_ <;> (intro hq; try (have hq' := hq; simp only [hqs] at hq'))) | refine stp ?_ | refine aws_draws [] mixed (by kernel_rfl) ?_ | refine ifT ?_ | refine ifF ?_ | (refine ifQ ?_ ?_ <;> (try (intro hn))) | (refine ifB ?_ ?_ <;> (intro hq; try (have hq' := hq; simp only [hqs] at hq'))))
  refine rkA (h := lop_eqs (a := B) (b := [1, 1, 0, 0, 0, 0, 0, 0, 0, 1, 1, 1, 5, 1, 1, 1, 1, 1, 4]) (by rfl) (by infer_instance) (by rfl) (by rfl) bB kB (by rfl)) ?_
  repeat' (first | refine rnC ?_ | refine rnSB ?_ | refine rnG ?_ | refine rnU ?_ | ((fail_if_success (refine rnKn ?_)); refine rnP ?_ ?_ <;> (intro hq; try (have hq' := hq; simp only [hqs] at hq'))) | refine rkC ?_ | refine rkSB ?_ | refine rkF ?_ | refine rkU ?_ | ((fail_if_success (refine rkKn ?_)); refine rkP ?_ ?_ <;> (intro hq; try (have hq' := hq; simp only [hqs] at hq'))) | refine stp ?_ | refine aws_draws [] mixed (by kernel_rfl) ?_ | refine ifT ?_ | refine ifF ?_ | (refine ifQ ?_ ?_ <;> (try (intro hn))) | (refine ifB ?_ ?_ <;> (intro hq; try (have hq' := hq; simp only [hqs] at hq'))))
  refine rkA (h := lop_call2 (by rfl) inferInstance (by rfl) (by rfl) (by infer_instance) hm1 True.intro (by rfl)) ?_
  repeat' (first | refine rnC ?_ | refine rnSB ?_ | refine rnG ?_ | refine rnU ?_ | ((fail_if_success (refine rnKn ?_)); refine rnP ?_ ?_ <;> (intro hq; try (have hq' := hq; simp only [hqs] at hq'))) | refine rkC ?_ | refine rkSB ?_ | refine rkF ?_ | refine rkU ?_ | ((fail_if_success (refine rkKn ?_)); refine rkP ?_ ?_ <;> (intro hq; try (have hq' := hq; simp only [hqs] at hq'))) | refine stp ?_ | refine aws_draws [] mixed (by kernel_rfl) ?_ | refine ifT ?_ | refine ifF ?_ | (refine ifQ ?_ ?_ <;> (try (intro hn))) | (refine ifB ?_ ?_ <;> (intro hq; try (have hq' := hq; simp only [hqs] at hq'))))
  refine rkA (h := lop_eqs (a := (L2.getD (Int.toNat 0) default).1) (b := [97]) (by rfl) (by infer_instance) (by rfl) (by rfl) kA ok97 (by rfl)) ?_
  repeat' (first | refine rnC ?_ | refine rnSB ?_ | refine rnG ?_ | refine rnU ?_ | ((fail_if_success (refine rnKn ?_)); refine rnP ?_ ?_ <;> (intro hq; try (have hq' := hq; simp only [hqs] at hq'))) | refine rkC ?_ | refine rkSB ?_ | refine rkF ?_ | refine rkU ?_ | ((fail_if_success (refine rkKn ?_)); refine rkP ?_ ?_ <;> (intro hq; try (have hq' := hq; simp only [hqs] at hq'))) | refine stp ?_ | refine aws_draws [] mixed (by kernel_rfl) ?_ | refine ifT ?_ | refine ifF ?_ | (refine ifQ ?_ ?_ <;> (try (intro hn))) | (refine ifB ?_ ?_ <;> (intro hq; try (have hq' := hq; simp only [hqs] at hq'))))
  refine rkA (h := lop_call2 (by rfl) inferInstance (by rfl) (by rfl) (by infer_instance) hm2 True.intro (by rfl)) ?_
  repeat' (first | refine rnC ?_ | refine rnSB ?_ | refine rnG ?_ | refine rnU ?_ | ((fail_if_success (refine rnKn ?_)); refine rnP ?_ ?_ <;> (intro hq; try (have hq' := hq; simp only [hqs] at hq'))) | refine rkC ?_ | refine rkSB ?_ | refine rkF ?_ | refine rkU ?_ | ((fail_if_success (refine rkKn ?_)); refine rkP ?_ ?_ <;> (intro hq; try (have hq' := hq; simp only [hqs] at hq'))) | refine stp ?_ | refine aws_draws [] mixed (by kernel_rfl) ?_ | refine ifT ?_ | refine ifF ?_ | (refine ifQ ?_ ?_ <;> (try (intro hn))) | (refine ifB ?_ ?_ <;> (intro hq; try (have hq' := hq; simp only [hqs] at hq'))))
  refine rkA (h := lop_cv_os (b := [0, 0, 0, 0, 0, 0, 0, 0, 0]) (by rfl) (by infer_instance) (by infer_instance) (by infer_instance) (by rfl) (by rfl) (by rfl) (by rfl) (by rfl) (by decide) (by rfl)) ?_
  refine rkA (h := lop_eqs (a := Z) (b := [0, 0, 0, 0, 0, 0, 0, 0, 0]) (by rfl) (by infer_instance) (by rfl) (by rfl) bZ kZ (by rfl)) ?_
  as_aux_lemma =>
    repeat' (first | refine rnC ?_ | refine rnSB ?_ | refine rnG ?_ | refine rnU ?_ | ((fail_if_success (refine rnKn ?_)); refine rnP ?_ ?_ <;> (intro hq; try (have hq' := hq; simp only [hqs] at hq'))) | refine rkC ?_ | refine rkSB ?_ | refine rkF ?_ | refine rkU ?_ | ((fail_if_success (refine rkKn ?_)); refine rkP ?_ ?_ <;> (intro hq; try (have hq' := hq; simp only [hqs] at hq'))) | refine stp ?_ | refine aws_draws [] mixed (by kernel_rfl) ?_ | refine ifT ?_ | refine ifF ?_ | (refine ifQ ?_ ?_ <;> (try (intro hn))) | (refine ifB ?_ ?_ <;> (intro hq; try (have hq' := hq; simp only [hqs] at hq'))))
    exact rt1 rfl rfl finS_p (rb dZ.symm)
instance alive10_i : PC Tryz.prog 27 [] True (.p (.b true)) := ⟨fun _ => alive10_w⟩
end Go.Proofs.YtlaeldgebecppaaGreat.Wi
namespace Go.Proofs.YtlaeldgebecppaaGreat.Wi
open Go Go.RowKit Go.Aw Go.Aw.Cart Go.Proofs.YtlaeldgebecppaaGreat.Ca
set_option linter.unusedVariables false
set_option linter.unusedSimpArgs false
theorem okB_app {a b : List Nat} (ha : okB a) (hb : okB b) : okB (a ++ b) := fun c hc => (List.mem_append.1 hc).elim (ha c) (hb c)
theorem okB_flat {α : Type} {f : α → List Nat} {l : List α} (h : ∀ x ∈ l, okB (f x)) : okB (l.flatMap f) := fun c hc => by
  obtain ⟨x, hx, hc⟩ := List.mem_flatMap.1 hc
  exact h x hx c hc
theorem numB_ok (x : Nat) : okB (numB x) := fun c hc => by
  rcases List.mem_cons.1 hc with rfl | h
  · have := beF_le 8 x
    show (beF 8 x).length < 256
    omega
  · exact beF_byte 8 x c h
theorem cartB_ok (c : Crt) : okB (cartB c) := by
  refine okB_app (okB_flat fun n _ => numB_ok _) (okB_app (numB_ok _) (okB_flat fun e _ => ?_))
  exact okB_app (numB_ok _) (okB_app (numB_ok _) (okB_app (numB_ok _) (numB_ok _)))
theorem listB_ok {l : List Kd} (h : ∀ k ∈ l, okB k.1) : okB (listB l) :=
  okB_app (numB_ok _) (okB_flat fun k hk => okB_app (okB_app (numB_ok _) (h k hk)) (cartB_ok _))
end Go.Proofs.YtlaeldgebecppaaGreat.Wi
