/- buckets: what stands in buckets, and all buckets of a part; packs: lists written and read; packs in plain Lean: a list there and back; what the fixed calls of chapter 10 come to; packs: what is written is bytes; buckets: their texts, the leaves that have carts, and those that are unlike -/
import Derived.Test.YtbfjcohocedoaaaS2
import Derived.Test.YtbfjcohocedoaaaKt
import Derived.Test.YtbfjcohocedoaaaQ3
namespace Go.Proofs.Ytbfjcohocedoaaa.Wi
open Go Go.RowKit Go.Aw Go.Aw.Cart Go.Proofs.Ytbfjcohocedoaaa.Ca Go.Proofs.Ytbfjcohocedoaaa.Rg
set_option linter.unusedVariables false
set_option linter.unusedSimpArgs false
set_option maxRecDepth 8000
set_option maxHeartbeats 4000000
open B1
theorem wk_same {a : AV} : ∀ X v, AV.holds Mu.none X a v → AV.holds Mu.none X a v := fun _ _ h => h
/-- nothing is known of a cart -/
theorem empty_w (v : List Int) (l : List Ent) (ex : Bool) (hv : v.length = 8) (hl : l.length ≤ 1000000000) : PCall Try.prog 52 [cV v l ex] (.p (.b (emptyF (v, l)))) := by
  refine pcall_of Try.func52 rfl (fun w0 F S0 M0 => ?_)
  have c1 := same_w v zeroV l [] ex false hv rfl hl
  have c2 : PCall Try.prog 14 [cV v l ex, .a [.p (.k .u64 0), .p (.k .u64 0), .p (.k .u64 0), .p (.k .u64 0), .p (.k .u64 0), .p (.k .u64 0), .p (.k .u64 0), .p (.k .u64 0), .p (.v (.slice none 0 0))]] (.p (.b (sameF v zeroV l []))) :=
    c1.ent (.cons Ent1.refl (.cons (Ent1.cells (.cons .refl (.cons .refl (.cons .refl (.cons .refl (.cons .refl (.cons .refl (.cons .refl (.cons .refl (.cons .nil .nil)))))))))) .nil))
  haveI c3 : PC Try.prog 14 [cV v l ex, .a [.p (.k .u64 0), .p (.k .u64 0), .p (.k .u64 0), .p (.k .u64 0), .p (.k .u64 0), .p (.k .u64 0), .p (.k .u64 0), .p (.k .u64 0), .p (.v (.slice none 0 0))]] True (.p (.b (sameF v zeroV l []))) := ⟨fun _ => c2⟩
  unfold emptyF
  dsimp only
  as_aux_lemma =>
    repeat' (first | refine rnC ?_ | refine rnSB ?_ | refine rnG ?_ | refine rnU ?_ | ((fail_if_success (refine rnKn ?_)); refine rnP ?_ ?_ <;> (intro hq; try (have hq' := hq; simp only [hqs] at hq'))) | refine rkC ?_ | refine rkSB ?_ | refine rkF ?_ | refine rkU ?_ | ((fail_if_success (refine rkKn ?_)); refine rkP ?_ ?_ <;> (intro hq; try (have hq' := hq; simp only [hqs] at hq'))) | refine stp ?_ | refine ifT ?_ | refine ifF ?_ | (refine ifQ ?_ ?_ <;> (try (intro hn))) | (refine ifB ?_ ?_ <;> (intro hq; try (have hq' := hq; simp only [hqs] at hq'))))
    exact rt1 rfl rfl finS_p rfl
instance empty_i {v : List Int} {l : List Ent} {ex : Bool} : PC Try.prog 52 [cV v l ex] (v.length = 8 ∧ l.length ≤ 1000000000) (.p (.b (emptyF (v, l)))) := ⟨fun h => empty_w v l ex h.1 h.2⟩
theorem off_w (e : Kd) (h : KdI e) (hf : e.2.2.length ≤ 1000000000) : PCall Try.prog 51 ([kV e] ++ ([] : List PVal).map .p) (.p (.b (offF e))) := by
  refine pcall_of Try.func51 rfl (fun w0 F S0 M0 => ?_)
  have h8 := h.vec.1
  haveI c2 : PC Try.prog 13 [.p (.v (.string (strOf e.1)))] True (.p (.b (keyR e.1))) := ⟨fun _ => keyRightL_w e.1 h.key h.len⟩
  have ho : offF e = (emptyF (e.2.1, e.2.2) || !keyR e.1) := rfl
  cases he : emptyF (e.2.1, e.2.2) with
  | true =>
    rw [ho, he, Bool.true_or]
    as_aux_lemma =>
      repeat' (first | refine rnC ?_ | refine rnSB ?_ | refine rnG ?_ | refine rnU ?_ | ((fail_if_success (refine rnKn ?_)); refine rnP ?_ ?_ <;> (intro hq; try (have hq' := hq; simp only [hqs] at hq'))) | refine rkC ?_ | refine rkSB ?_ | refine rkF ?_ | refine rkU ?_ | ((fail_if_success (refine rkKn ?_)); refine rkP ?_ ?_ <;> (intro hq; try (have hq' := hq; simp only [hqs] at hq'))) | refine stp ?_ | refine aws_draws [] mixed (by kernel_rfl) ?_ | refine ifT ?_ | refine ifF ?_ | (refine ifQ ?_ ?_ <;> (try (intro hn))) | (refine ifB ?_ ?_ <;> (intro hq; try (have hq' := hq; simp only [hqs] at hq'))))
      exact rt1 rfl rfl finS_p rfl
  | false =>
    rw [ho, he, Bool.false_or]
    as_aux_lemma =>
      repeat' (first | refine rnC ?_ | refine rnSB ?_ | refine rnG ?_ | refine rnU ?_ | ((fail_if_success (refine rnKn ?_)); refine rnP ?_ ?_ <;> (intro hq; try (have hq' := hq; simp only [hqs] at hq'))) | refine rkC ?_ | refine rkSB ?_ | refine rkF ?_ | refine rkU ?_ | ((fail_if_success (refine rkKn ?_)); refine rkP ?_ ?_ <;> (intro hq; try (have hq' := hq; simp only [hqs] at hq'))) | refine stp ?_ | refine aws_draws [] mixed (by kernel_rfl) ?_ | refine ifT ?_ | refine ifF ?_ | (refine ifQ ?_ ?_ <;> (try (intro hn))) | (refine ifB ?_ ?_ <;> (intro hq; try (have hq' := hq; simp only [hqs] at hq'))))
      exact rt1 rfl rfl finS_p rfl
/-- an array's own slices, each a list -/
abbrev bkM (X : List (List Kd)) : List (Option (List (List PVal))) := (X.map fun b => b.map kR).map some
theorem lop_ld_takeK {C : Ctx} {o : Oper} {σ : St} {T : TypeId} {x : Operand} {k : TK} {sz by_ : Nat} {ob g i n d nd ty tyB : Nat} {mo0 : Option MO} {X : List (List Kd)} (ho : o.op = .load T x) (hT : TI C.P T k sz by_) (hdst : o.dst = some d) (hx : σ.look x = .o (.ptr ob g (0 + i * 1))) (hm : σ.mem ob = (n, some (.abs (arrA ty tyB 10 (bkM X))))) (hn : n = g + 1)
    (hk : k.agg = false) (hs : sz = 1) (hi : i < X.length) (hmd : σ.mem d = (nd, mo0)) (hne : d ≠ ob) (hd : dOk C o.dst = true) :
    LOp C o σ ⟨.o (.osl d nd 10 0 (X.getD i []).length), [(ob, (n, some (.abs (arrA ty tyB 10 ((bkM X).set i none))))), (d, (nd + 1, some (.buf tyB 10 ((X.getD i []).map kR))))]⟩ (fun q => q == ob || q == d) := by
  have hx' : σ.look x = .o (.ptr ob g i) := by rw [hx, Nat.zero_add, Nat.mul_one]
  have := lop_ld_take (C := C) (o := o) (rows := (X.getD i []).map kR) ho hT hdst hx' hm hn hk hs (by
    rw [List.getElem?_map, List.getElem?_map, List.getD_eq_getElem?_getD, List.getElem?_eq_getElem hi]; rfl) hmd hne hd
  rwa [List.length_map] at this
theorem lop_st_giveK {C : Ctx} {o : Oper} {σ : St} {T : TypeId} {x y : Operand} {k : TK} {sz by_ : Nat} {ob g i n d gd nd len ty tyB : Nat} {X : List (List Kd)} {B : List Kd} (ho : o.op = .store T x y) (hT : TI C.P T k sz by_) (hdst : o.dst = none) (hx : σ.look x = .o (.ptr ob g (0 + i * 1))) (hy : σ.look y = .o (.osl d gd 10 0 len)) (hm : σ.mem ob = (n, some (.abs (arrA ty tyB 10 ((bkM X).set i none))))) (hn : n = g + 1)
    (hs : sz = 1) (hi : i < X.length) (hmd : σ.mem d = (nd, some (.buf tyB 10 (B.map kR)))) (hnd : nd = gd + 1) (hlr : len = B.length) (hne : d ≠ ob) :
    LOp C o σ ⟨.un, [(ob, (n, some (.abs (arrA ty tyB 10 (bkM (X.set i B)))))), (d, (nd, none))]⟩ (fun q => q == ob || q == d) := by
  have hx' : σ.look x = .o (.ptr ob g i) := by rw [hx, Nat.zero_add, Nat.mul_one]
  have := lop_st_give (C := C) (o := o) ho hT hdst hx' hy hm hn hs (by rw [List.getElem?_set_self (by simpa using hi)]) hmd hnd (by rw [List.length_map]; exact hlr) hne
  have e : ((bkM X).set i none).set i (some (B.map kR)) = bkM (X.set i B) := by
    unfold bkM
    rw [List.set_set, List.map_set, List.map_set]
  rwa [e] at this
theorem finL_map {α : Type} {σ : St} {K : Nat → Bool} {f : α → PVal} {l : List α} : All2 (FinC σ K) (l.map fun a => .p (f a)) (l.map fun a => .p (f a)) := by
  refine ⟨rfl, fun i a b ha hb => ?_⟩
  rw [ha] at hb; obtain rfl := Option.some.inj hb
  rw [List.getElem?_map] at ha
  obtain ⟨x, _, rfl⟩ := Option.map_eq_some_iff.1 ha
  exact .p
theorem ent_fnc {f : FuncId} : Ent1 (.p (.v (.func (.func f) #[] #[]))) (.p (.fnv f [])) := by
  rintro μ X v ⟨rfl, _⟩
  exact ⟨[], rfl, .nil⟩
theorem ro_two {ops : Array Oper} {W : List (Nat × Nat)} {i a b : Nat} (h : okObj ops W i a = true) (k : okObj ops W i b = true) : ∀ x, (fun q : Nat => q == a || q == b) x = true → okObj ops W i x = true := fun x hx => by
  rcases Bool.or_eq_true_iff.1 hx with q | q
  · rw [beq_iff_eq.1 q]; exact h
  · rw [beq_iff_eq.1 q]; exact k
theorem ob_two {W : List (Nat × Nat)} {i x y : Nat} {m m' : Nat × Option MO} (h : (i, x) ∈ W) (k : (i, y) ∈ W) : ∀ p ∈ [(x, m), (y, m')], (i, p.1) ∈ W := fun p hp => by
  simp only [List.mem_cons, List.not_mem_nil, or_false] at hp
  rcases hp with rfl | rfl
  · exact h
  · exact k
theorem buckets_w (l : List Kd) (ex : Bool) (part : Int) (hl : l.length ≤ 100000) (hin : ∀ k ∈ l, KdI k) (hf : ∀ k ∈ l, k.2.2.length ≤ 1000000000) : PCall Try.prog 32 [.p (.sl 10 (l.map kR) ex), .p (.i part)] (.a ((bktsF l part).map fun b => .p (.sl 10 (b.map kR) false))) := by
  refine pcall_of Try.func32 rfl (fun w0 F S0 M0 => ?_)
  have c0 := pright_w l ex (by omega) hin hf
  repeat' (first | refine rnC ?_ | refine rnSB ?_ | refine rnG ?_ | refine rnU ?_ | ((fail_if_success (refine rnKn ?_)); refine rnP ?_ ?_ <;> (intro hq; try (have hq' := hq; simp only [hqs] at hq'))) | refine rkC ?_ | refine rkSB ?_ | refine rkF ?_ | refine rkU ?_ | ((fail_if_success (refine rkKn ?_)); refine rkP ?_ ?_ <;> (intro hq; try (have hq' := hq; simp only [hqs] at hq'))) | refine stp ?_ | refine ifT ?_ | refine ifF ?_ | (refine ifQ ?_ ?_ <;> (try (intro hn))) | (refine ifB ?_ ?_ <;> (intro hq; try (have hq' := hq; simp only [hqs] at hq'))))
  refine rn_says (says_arr0 (o := 5) (k := 16) (es := 10) (tyB := 36) rfl (by decide)) rfl ?_
  unfold bktsF
  cases hr : keysF l with
  | false =>
    rw [hr] at c0
    haveI : PC Try.prog 9 [.p (.sl 10 (l.map kR) ex)] True (.p (.b false)) := ⟨fun _ => c0⟩
    rw [if_neg (by simp)]
    refine rn_says (says_arr1 (o := 5) (L := List.replicate 16 []) rfl) rfl ?_
    as_aux_lemma =>
      repeat' (first | refine rnC ?_ | refine rnSB ?_ | refine rnG ?_ | refine rnU ?_ | ((fail_if_success (refine rnKn ?_)); refine rnP ?_ ?_ <;> (intro hq; try (have hq' := hq; simp only [hqs] at hq'))) | refine rkC ?_ | refine rkSB ?_ | refine rkF ?_ | refine rkU ?_ | ((fail_if_success (refine rkKn ?_)); refine rkP ?_ ?_ <;> (intro hq; try (have hq' := hq; simp only [hqs] at hq'))) | refine stp ?_ | refine ifT ?_ | refine ifF ?_ | (refine ifQ ?_ ?_ <;> (try (intro hn))) | (refine ifB ?_ ?_ <;> (intro hq; try (have hq' := hq; simp only [hqs] at hq'))))
      exact rc1 rfl rfl rfl rfl rfl rfl (finL_map (l := List.replicate 16 ([] : List (List PVal)))) rfl
  | true =>
    rw [hr] at c0
    haveI : PC Try.prog 9 [.p (.sl 10 (l.map kR) ex)] True (.p (.b true)) := ⟨fun _ => c0⟩
    rw [if_pos rfl]
    have hS : ∀ e ∈ stF l, okB e.1 ∧ e.1.length ≤ 20 := fun e he => ⟨(hin e (st_sub e he)).key, (keys_iff.1 hr).key e (st_sub e he)⟩
    have hSl : (stF l).length ≤ 100000 := Nat.le_trans (st_len l) hl
    have dl : OCall Try.prog 50 [.o (.osl 1000 1 10 0 l.length), .p (.fnv 51 [])] (memL [(1000, (1 + 1, some (.buf 36 10 (l.map kR))))]) (.o (.osl 1000 1 10 0 (stF l).length)) (memL [(1000, (1 + 1, some (.buf 36 10 ((stF l).map kR))))]) :=
      deleteFuncK_o 51 [] inferInstance offF 1 l (by omega) fun e he => off_w e (hin e he) (hf e he)
    generalize stF l = S at hS hSl dl ⊢
    haveI : OC Try.prog 50 [.o (.osl 16 1 10 0 l.length), .p (.v (.func (.func 51) #[] #[]))] [(16, (2, some (.buf 36 10 (l.map kR))))] [] True (.o (.osl 16 1 10 0 S.length)) [(16, (2, some (.buf 36 10 (S.map kR))))] := ⟨fun _ => (dl.one 16).ent (.cons Ent1.refl (.cons ent_fnc .nil))⟩
    have hl6 : l.length ≤ 1000000 := by omega
    repeat' (first | refine rnC ?_ | refine rnSB ?_ | refine rnG ?_ | refine rnU ?_ | ((fail_if_success (refine rnKn ?_)); refine rnP ?_ ?_ <;> (intro hq; try (have hq' := hq; simp only [hqs] at hq'))) | refine rkC ?_ | refine rkSB ?_ | refine rkF ?_ | refine rkU ?_ | ((fail_if_success (refine rkKn ?_)); refine rkP ?_ ?_ <;> (intro hq; try (have hq' := hq; simp only [hqs] at hq'))) | refine stp ?_ | refine ifT ?_ | refine ifF ?_ | (refine ifQ ?_ ?_ <;> (try (intro hn))) | (refine ifB ?_ ?_ <;> (intro hq; try (have hq' := hq; simp only [hqs] at hq'))))
    refine aws_loopS [8, 9, 10, 20, 21, 22, 23, 24, 25, 26, 27, 28, 29, 30, 31, 32, 33, 34, 35, 36, 37, 38, 39, 40, 41] [5, 8, 36] (fun (x : Nat × List (List Kd) × Nat × Option MO) => [(20, .p (.i x.1))]) (fun x => [(5, (1, some (.abs (arrA 64 36 10 (bkM x.2.1))))), (8, (x.1, x.2.2.2)), (36, (x.2.2.1, none))]) (fun x => x.1 ≤ S.length ∧ x.2.1 = bkF part (S.take x.1)) (fun x => S.length - x.1) (0, List.replicate 16 [], 0, none) ⟨Nat.zero_le _, rfl⟩ (by exact knA) (by exact knA) ?_
    rintro ⟨i, X, g, m8⟩ β γ ⟨hi, hX⟩
    dsimp only at hi hX ⊢
    by_cases hil : i < S.length
    · have d1 : decide ((i : Int) < (S.length : Int)) = true := decide_eq_true (by omega)
      have ei : (i : Int).toNat = i := Int.toNat_natCast i
      obtain ⟨e, he⟩ : ∃ e, e = S.getD (i : Int).toNat default := ⟨_, rfl⟩
      have hme : e ∈ S := by rw [he, ei, getD_at hil]; exact List.getElem_mem _
      have hst : S.take (i + 1) = S.take i ++ [e] := by rw [takeK_get hil, he, ei]
      obtain ⟨q1, q2⟩ := hS e hme
      have q3 : e.1.length ≤ 1000000 := by omega
      have hlf := leaf_lt e.1
      have hXl : X.length = 16 := by rw [hX]; exact bkF_len _ _
      have hle : leafF e.1 < X.length := by omega
      by_cases hp : (partF e.1 : Int) = part
      · have d2 : decide ((partF e.1 : Int) = part) = true := decide_eq_true hp
        have hput := bk_put (L := S.take i) hp
        rw [← hst, ← hX] at hput
        have hroom : (X.getD (leafF e.1 : Int).toNat []).length ≤ 100000 := by
          rw [Int.toNat_natCast, hX, bkF_get _ _ hlf]
          exact Nat.le_trans (List.length_filter_le _ _) (by rw [List.length_take]; omega)
        have hmax : (100000 : Nat) + 1 ≤ maxLen := by decide
        rw [he] at d2 q1 q2 q3 hlf hle hroom
        repeat' (first | refine rnC ?_ | refine rnSB ?_ | refine rnG ?_ | refine rnU ?_ | ((fail_if_success (refine rnKn ?_)); refine rnP ?_ ?_ <;> (intro hq; try (have hq' := hq; simp only [hqs] at hq'))) | refine rkC ?_ | refine rkSB ?_ | refine rkF ?_ | refine rkU ?_ | ((fail_if_success (refine rkKn ?_)); refine rkP ?_ ?_ <;> (intro hq; try (have hq' := hq; simp only [hqs] at hq'))) | refine stp ?_ | refine ifT ?_ | refine ifF ?_ | (refine ifQ ?_ ?_ <;> (try (intro hn))) | (refine ifB ?_ ?_ <;> (intro hq; try (have hq' := hq; simp only [hqs] at hq'))))
        refine aws_draws [(3, 5), (3, 36), (6, 36), (8, 5), (8, 36)] mixed (by kernel_rfl) ?_
        repeat' (first | refine rnC ?_ | refine rnSB ?_ | refine rnG ?_ | refine rnU ?_ | ((fail_if_success (refine rnKn ?_)); refine rnP ?_ ?_ <;> (intro hq; try (have hq' := hq; simp only [hqs] at hq'))) | refine rkC ?_ | refine rkSB ?_ | refine rkF ?_ | refine rkU ?_ | ((fail_if_success (refine rkKn ?_)); refine rkP ?_ ?_ <;> (intro hq; try (have hq' := hq; simp only [hqs] at hq'))) | refine stp ?_ | refine aws_draws [] mixed (by kernel_rfl) ?_ | refine ifT ?_ | refine ifF ?_ | (refine ifQ ?_ ?_ <;> (try (intro hn))) | (refine ifB ?_ ?_ <;> (intro hq; try (have hq' := hq; simp only [hqs] at hq'))))
        refine rkA (h := lop_ld_takeK (X := X) (by rfl) (by infer_instance) (by rfl) (by rfl) (by rfl) (by rfl) (by rfl) (by rfl) (by rw [Int.toNat_natCast]; exact hle) (by rfl) (by decide) (by rfl)) (hro := ro_two (by kernel_rfl) (by kernel_rfl)) (hob := ob_two (by decide) (by decide)) ?_
        repeat' (first | refine rnC ?_ | refine rnSB ?_ | refine rnG ?_ | refine rnU ?_ | ((fail_if_success (refine rnKn ?_)); refine rnP ?_ ?_ <;> (intro hq; try (have hq' := hq; simp only [hqs] at hq'))) | refine rkC ?_ | refine rkSB ?_ | refine rkF ?_ | refine rkU ?_ | ((fail_if_success (refine rkKn ?_)); refine rkP ?_ ?_ <;> (intro hq; try (have hq' := hq; simp only [hqs] at hq'))) | refine stp ?_ | refine aws_draws [] mixed (by kernel_rfl) ?_ | refine ifT ?_ | refine ifF ?_ | (refine ifQ ?_ ?_ <;> (try (intro hn))) | (refine ifB ?_ ?_ <;> (intro hq; try (have hq' := hq; simp only [hqs] at hq'))))
        refine rk_sto (gd_n rfl rfl) rfl (lop_st_giveK (X := X) (B := X.getD (leafF (S.getD (i : Int).toNat default).1 : Int).toNat [] ++ [(S.getD (i : Int).toNat default)]) (by rfl) (by infer_instance) (by rfl) (by rfl) (by rfl) (by rfl) (by rfl) (by rfl) (by rw [Int.toNat_natCast]; exact hle) (by rfl) (by rfl) (by rfl) (by decide)) (ro_two (by kernel_rfl) (by kernel_rfl)) (ob_two (by decide) (by decide)) ?_
        as_aux_lemma =>
          repeat' (first | refine rnC ?_ | refine rnSB ?_ | refine rnG ?_ | refine rnU ?_ | ((fail_if_success (refine rnKn ?_)); refine rnP ?_ ?_ <;> (intro hq; try (have hq' := hq; simp only [hqs] at hq'))) | refine rkC ?_ | refine rkSB ?_ | refine rkF ?_ | refine rkU ?_ | ((fail_if_success (refine rkKn ?_)); refine rkP ?_ ?_ <;> (intro hq; try (have hq' := hq; simp only [hqs] at hq'))) | refine stp ?_ | refine aws_draws [] mixed (by kernel_rfl) ?_ | refine ifT ?_ | refine ifF ?_ | (refine ifQ ?_ ?_ <;> (try (intro hn))) | (refine ifB ?_ ?_ <;> (intro hq; try (have hq' := hq; simp only [hqs] at hq'))))
          exact ⟨(i + 1, X.set (leafF (S.getD (i : Int).toNat default).1 : Int).toNat (X.getD (leafF (S.getD (i : Int).toNat default).1 : Int).toNat [] ++ [(S.getD (i : Int).toNat default)]), g + 2, _), _, by dsimp only; omega, ⟨by dsimp only; omega, by dsimp only; rw [hput, he]; simp only [Int.toNat_natCast]⟩, .refl, by exact frA⟩
      · have d2 : decide ((partF e.1 : Int) = part) = false := decide_eq_false hp
        have hput := bk_skip (L := S.take i) hp
        rw [← hst, ← hX] at hput
        rw [he] at d2 q1 q2 q3 hlf hle
        as_aux_lemma =>
          repeat' (first | refine rnC ?_ | refine rnSB ?_ | refine rnG ?_ | refine rnU ?_ | ((fail_if_success (refine rnKn ?_)); refine rnP ?_ ?_ <;> (intro hq; try (have hq' := hq; simp only [hqs] at hq'))) | refine rkC ?_ | refine rkSB ?_ | refine rkF ?_ | refine rkU ?_ | ((fail_if_success (refine rkKn ?_)); refine rkP ?_ ?_ <;> (intro hq; try (have hq' := hq; simp only [hqs] at hq'))) | refine stp ?_ | refine ifT ?_ | refine ifF ?_ | (refine ifQ ?_ ?_ <;> (try (intro hn))) | (refine ifB ?_ ?_ <;> (intro hq; try (have hq' := hq; simp only [hqs] at hq'))))
          exact ⟨(i + 1, X, g, _), _, by dsimp only; omega, ⟨by dsimp only; omega, by dsimp only; exact hput.symm⟩, .refl, by exact frA⟩
    · have d1 : decide ((i : Int) < (S.length : Int)) = false := decide_eq_false (by omega)
      obtain rfl : i = S.length := by omega
      rw [List.take_length] at hX
      rw [← hX]
      have hXl : X.length = 16 := by rw [hX]; exact bkF_len _ _
      clear hX
      repeat' (first | refine rnC ?_ | refine rnSB ?_ | refine rnG ?_ | refine rnU ?_ | ((fail_if_success (refine rnKn ?_)); refine rnP ?_ ?_ <;> (intro hq; try (have hq' := hq; simp only [hqs] at hq'))) | refine rkC ?_ | refine rkSB ?_ | refine rkF ?_ | refine rkU ?_ | ((fail_if_success (refine rkKn ?_)); refine rkP ?_ ?_ <;> (intro hq; try (have hq' := hq; simp only [hqs] at hq'))) | refine stp ?_ | refine ifT ?_ | refine ifF ?_ | (refine ifQ ?_ ?_ <;> (try (intro hn))) | (refine ifB ?_ ?_ <;> (intro hq; try (have hq' := hq; simp only [hqs] at hq'))))
      refine rn_says (says_arr1 (o := 5) (L := X.map fun b => b.map kR) rfl) rfl ?_
      have hXm : ((X.map fun b => b.map kR).map fun rows => AC.p (.sl 10 rows false)).length = 16 := by rw [List.length_map, List.length_map]; exact hXl
      as_aux_lemma =>
        repeat' (first | refine rnC ?_ | refine rnSB ?_ | refine rnG ?_ | refine rnU ?_ | ((fail_if_success (refine rnKn ?_)); refine rnP ?_ ?_ <;> (intro hq; try (have hq' := hq; simp only [hqs] at hq'))) | refine rkC ?_ | refine rkSB ?_ | refine rkF ?_ | refine rkU ?_ | ((fail_if_success (refine rkKn ?_)); refine rkP ?_ ?_ <;> (intro hq; try (have hq' := hq; simp only [hqs] at hq'))) | refine stp ?_ | refine ifT ?_ | refine ifF ?_ | (refine ifQ ?_ ?_ <;> (try (intro hn))) | (refine ifB ?_ ?_ <;> (intro hq; try (have hq' := hq; simp only [hqs] at hq'))))
        refine rc1 rfl rfl rfl rfl rfl hXm (finL_map (l := X.map fun b => b.map kR)) ?_
        rw [List.map_map]; rfl
end Go.Proofs.Ytbfjcohocedoaaa.Wi
namespace Go.Proofs.Ytbfjcohocedoaaa.Wi
open Go Go.RowKit Go.Aw Go.Aw.Cart Go.Proofs.Ytbfjcohocedoaaa.Ca
set_option linter.unusedVariables false
set_option linter.unusedSimpArgs false
set_option maxRecDepth 8000
set_option maxHeartbeats 4000000
namespace WA
theorem lopC {C : Ctx} {o : Oper} {σ : St} {e : Eff} {ro : Nat → Bool} (h : LOp C o σ e ro := by
    first | (apply lop_cv_sb; (focus rfl); (focus exact inferInstance); (focus exact inferInstance); (focus exact inferInstance); (focus rfl); (focus assumption); (focus first | (simp only [maxLen, List.length_append, List.length_cons, List.length_nil, List.length_take, List.length_drop, List.length_map]; omega) | omega); (focus rfl)) | (apply lop_cv_bs; (focus rfl); (focus exact inferInstance); (focus exact inferInstance); (focus exact inferInstance); (focus rfl); (focus rfl)) | exact W9.lopC | fail) : LOp C o σ e ro := h
section steps
variable {C : Ctx} {ops : Array Oper} {o : Oper} {rest : List Oper} {K : St → Prop} {σ : St} {e : Eff} {ro : Nat → Bool} {W : List (Nat × Nat)} {i : Nat}
theorem rnC {d : Nat} (hk : RunN C ops rest K (e.app (some d) σ)) (hg : Guard ops σ o true := by first | exact gd_n rfl rfl | exact gd_t rfl rfl rfl rfl | exact gd_t rfl rfl rfl (by assumption)) (hd : o.dst = some d := by rfl) (h : LOp C o σ e ro := by exact lopC) : RunN C ops (o :: rest) K σ := rn_any hg hd h hk
theorem rkC {d : Nat} (hk : RunK C ops W (i + 1) rest K (e.app (some d) σ)) (hg : Guard ops σ o true := by first | exact gd_n rfl rfl | exact gd_t rfl rfl rfl rfl | exact gd_t rfl rfl rfl (by assumption)) (hd' : o.dst = some d := by rfl) (hd : dOk C o.dst = true := by rfl) (h : LOp C o σ e ro := by exact lopC)
    (hro : ∀ x, ro x = true → okObj ops W i x = true := by first | exact fun _ => ro_none | exact ro_one rfl | exact ro_k1 rfl | exact ro_one (by kernel_rfl) | exact ro_k1 (by kernel_rfl) | exact ro_kIn (by decide)) (hob : ∀ p ∈ e.obj, (i, p.1) ∈ W := by first | exact ob_none | exact ob_one (by decide) | decide) : RunK C ops W i (o :: rest) K σ := rk_wr hg hd' hd h hro hob hk
end steps
end WA
open WA
theorem kdB_len {k : Kd} (h : k.1.length ≤ 20) (hv : vecOk k.2.1) (hr : rightF k.2.1 k.2.2 = true) : (kdB k).length ≤ 20029 := by
  have h1 := cartB_len hv hr
  have h2 := numI_len ((k.1.length : Nat) : Int)
  rw [numI_nat] at h2
  unfold kdB textB
  rw [List.length_append, List.length_append]
  have h3 : (cartB k.2).length ≤ 20000 := h1
  omega
theorem writeAll_ok (l : List Kd) (ex : Bool) (hk : keysF l = true) (hin : ∀ k ∈ l, KdI k) : PCall Try.prog 34 [.p (.sl 10 (l.map kR) ex)] (.tup [.one (.p (.sl 1 ((listB l).map bR) false)), .one (.p (.i 0))]) := by
  refine pcall_of Try.func34 rfl (fun w0 F S0 M0 => ?_)
  have ho := keys_iff.1 hk
  have hl := ho.few
  haveI : PC Try.prog 9 [.p (.sl 10 (l.map kR) ex)] True (.p (.b true)) := ⟨fun _ => by
    have := pright_w l ex (by omega) hin (fun k hm => by have := (ok_iff.1 (ho.cart k hm)).few; omega)
    rwa [hk] at this⟩
  have d0 : (!true) = false := rfl
  have b1 : l.length < 18446744073709551616 := by omega
  have hnl := numI_len (l.length : Int)
  rw [numI_nat] at hnl
  have hB : listB l = numB l.length ++ l.flatMap kdB := rfl
  rw [hB]
  repeat' (first | refine rnC ?_ | refine rnSB ?_ | refine rnG ?_ | refine rnU ?_ | ((fail_if_success (refine rnKn ?_)); refine rnP ?_ ?_ <;> (intro hq; try (have hq' := hq; simp only [hqs] at hq'))) | refine rkC ?_ | refine rkSB ?_ | refine rkF ?_ | refine rkU ?_ | ((fail_if_success (refine rkKn ?_)); refine rkP ?_ ?_ <;> (intro hq; try (have hq' := hq; simp only [hqs] at hq'))) | refine stp ?_ | refine ifT ?_ | refine ifF ?_ | (refine ifQ ?_ ?_ <;> (try (intro hn))) | (refine ifB ?_ ?_ <;> (intro hq; try (have hq' := hq; simp only [hqs] at hq'))))
  refine rn_says (says_wr (p := 11) rfl) rfl ?_
  repeat' (first | refine rnC ?_ | refine rnSB ?_ | refine rnG ?_ | refine rnU ?_ | ((fail_if_success (refine rnKn ?_)); refine rnP ?_ ?_ <;> (intro hq; try (have hq' := hq; simp only [hqs] at hq'))) | refine rkC ?_ | refine rkSB ?_ | refine rkF ?_ | refine rkU ?_ | ((fail_if_success (refine rkKn ?_)); refine rkP ?_ ?_ <;> (intro hq; try (have hq' := hq; simp only [hqs] at hq'))) | refine stp ?_ | refine ifT ?_ | refine ifF ?_ | (refine ifQ ?_ ?_ <;> (try (intro hn))) | (refine ifB ?_ ?_ <;> (intro hq; try (have hq' := hq; simp only [hqs] at hq'))))
  have e0 : ([] ++ numB l.length : List Nat) = numB l.length := rfl
  rw [e0]
  generalize numB l.length = B0 at hnl ⊢
  refine aws_loopS [6, 19, 20, 21, 22, 23, 24, 25, 26, 27, 28, 29, 30, 31, 32] [11, 6] (fun (x : Nat × List Nat × Option MO) => [(19, .p (.i x.1))]) (fun x => [(11, (1, some (.abs (wrA x.2.1)))), (6, (x.1, x.2.2))]) (fun x => x.1 ≤ l.length ∧ x.2.1 = B0 ++ (l.take x.1).flatMap kdB ∧ x.2.1.length ≤ 9 + 20029 * x.1) (fun x => l.length - x.1) (0, B0, none) ⟨Nat.zero_le _, by simp, by dsimp only; omega⟩ (by exact knA) (by exact knA) ?_
  rintro ⟨i, L, c6⟩ β γ ⟨hi, hL, hll⟩
  dsimp only at hi hL hll ⊢
  by_cases hil : i < l.length
  · have d1 : decide ((i : Int) < (l.length : Int)) = true := decide_eq_true (by omega)
    have ei : (i : Int).toNat = i := Int.toNat_natCast i
    have hm : l.getD (i : Int).toNat default ∈ l := by rw [ei, getD_at hil]; exact List.getElem_mem _
    have okx := (hin _ hm).key
    have vx := (hin _ hm).vec
    have kx := ho.key _ hm
    have rx := ho.cart _ hm
    have hkl := kdB_len kx vx rx
    have hft := flat_take kdB hil
    rw [← ei] at hft
    have kx' : (l.getD (i : Int).toNat default).1.length ≤ 1000000 := by omega
    have g1 : L.length ≤ 900000000 := by omega
    have ht : (textB (l.getD (i : Int).toNat default).1).length ≤ 29 := by
      have h2 := numI_len (((l.getD (i : Int).toNat default).1.length : Nat) : Int)
      rw [numI_nat] at h2
      unfold textB
      rw [List.length_append]; omega
    have g2 : (L ++ textB (l.getD (i : Int).toNat default).1).length ≤ 800000000 := by rw [List.length_append]; omega
    have e2 : L ++ textB (l.getD (i : Int).toNat default).1 ++ cartB ((l.getD (i : Int).toNat default).2.1, (l.getD (i : Int).toNat default).2.2) = L ++ kdB (l.getD (i : Int).toNat default) := by rw [List.append_assoc]; rfl
    have hn : L ++ textB (l.getD (i : Int).toNat default).1 ++ cartB ((l.getD (i : Int).toNat default).2.1, (l.getD (i : Int).toNat default).2.2) = B0 ++ (l.take (i + 1)).flatMap kdB := by
      rw [e2, hL]
      rw [show (i : Int).toNat = i from ei] at hft ⊢
      rw [hft, List.append_assoc]
    have g5 : (L ++ textB (l.getD (i : Int).toNat default).1 ++ cartB ((l.getD (i : Int).toNat default).2.1, (l.getD (i : Int).toNat default).2.2)).length ≤ 9 + 20029 * (i + 1) := by rw [e2, List.length_append]; omega
    clear hft hL e2 hkl hin ho kx
    as_aux_lemma =>
      repeat' (first | refine rnC ?_ | refine rnSB ?_ | refine rnG ?_ | refine rnU ?_ | ((fail_if_success (refine rnKn ?_)); refine rnP ?_ ?_ <;> (intro hq; try (have hq' := hq; simp only [hqs] at hq'))) | refine rkC ?_ | refine rkSB ?_ | refine rkF ?_ | refine rkU ?_ | ((fail_if_success (refine rkKn ?_)); refine rkP ?_ ?_ <;> (intro hq; try (have hq' := hq; simp only [hqs] at hq'))) | refine stp ?_ | refine ifT ?_ | refine ifF ?_ | (refine ifQ ?_ ?_ <;> (try (intro hn))) | (refine ifB ?_ ?_ <;> (intro hq; try (have hq' := hq; simp only [hqs] at hq'))))
      exact ⟨(i + 1, _, _), _, by dsimp only; omega, ⟨by dsimp only; omega, hn, g5⟩, .refl, by exact frA⟩
  · have d1 : decide ((i : Int) < (l.length : Int)) = false := decide_eq_false (by omega)
    rw [List.take_of_length_le (by omega)] at hL
    rw [← hL]
    clear hL hin ho
    have hl9 : L.length ≤ 1000000000 := by omega
    as_aux_lemma =>
      repeat' (first | refine rnC ?_ | refine rnSB ?_ | refine rnG ?_ | refine rnU ?_ | ((fail_if_success (refine rnKn ?_)); refine rnP ?_ ?_ <;> (intro hq; try (have hq' := hq; simp only [hqs] at hq'))) | refine rkC ?_ | refine rkSB ?_ | refine rkF ?_ | refine rkU ?_ | ((fail_if_success (refine rkKn ?_)); refine rkP ?_ ?_ <;> (intro hq; try (have hq' := hq; simp only [hqs] at hq'))) | refine stp ?_ | refine ifT ?_ | refine ifF ?_ | (refine ifQ ?_ ?_ <;> (try (intro hn))) | (refine ifB ?_ ?_ <;> (intro hq; try (have hq' := hq; simp only [hqs] at hq'))))
      exact rt2 rfl rfl finS_p rfl finS_p rfl
theorem writeAll_no (l : List Kd) (ex : Bool) (hk : keysF l = false) (hl : l.length ≤ 1000000000) (hin : ∀ k ∈ l, KdI k) (hf : ∀ k ∈ l, k.2.2.length ≤ 1000000000) : PCall Try.prog 34 [.p (.sl 10 (l.map kR) ex)] (.tup [.one (.p (.sl 1 (([] : List Nat).map bR) false)), .one (.p (.i 3))]) := by
  refine pcall_of Try.func34 rfl (fun w0 F S0 M0 => ?_)
  haveI : PC Try.prog 9 [.p (.sl 10 (l.map kR) ex)] True (.p (.b false)) := ⟨fun _ => by
    have := pright_w l ex hl hin hf
    rwa [hk] at this⟩
  have d0 : (!false) = true := rfl
  clear hin hf
  as_aux_lemma =>
    repeat' (first | refine rnC ?_ | refine rnSB ?_ | refine rnG ?_ | refine rnU ?_ | ((fail_if_success (refine rnKn ?_)); refine rnP ?_ ?_ <;> (intro hq; try (have hq' := hq; simp only [hqs] at hq'))) | refine rkC ?_ | refine rkSB ?_ | refine rkF ?_ | refine rkU ?_ | ((fail_if_success (refine rkKn ?_)); refine rkP ?_ ?_ <;> (intro hq; try (have hq' := hq; simp only [hqs] at hq'))) | refine stp ?_ | refine ifT ?_ | refine ifF ?_ | (refine ifQ ?_ ?_ <;> (try (intro hn))) | (refine ifB ?_ ?_ <;> (intro hq; try (have hq' := hq; simp only [hqs] at hq'))))
    exact rt2 rfl rfl (.one .nil) rfl finS_p rfl
end Go.Proofs.Ytbfjcohocedoaaa.Wi
namespace Go.Proofs.Ytbfjcohocedoaaa.Wi
open Go Go.RowKit Go.Aw Go.Aw.Cart Go.Proofs.Ytbfjcohocedoaaa.Ca
set_option linter.unusedVariables false
set_option linter.unusedSimpArgs false
theorem kd_back {k : Kd} (hl : k.1.length ≤ 20) (hr : rightF k.2.1 k.2.2 = true) (hv : vecOk k.2.1) (q : List Nat) : kdS (kdB k ++ q, 0) = (k, (q, 0)) := by
  unfold kdB
  rw [List.append_assoc]
  simp only [kdS, bindS, pureS, text_back (b := k.1) (most := 20) (by omega) (by decide), cart_back (c := k.2) hr hv]
theorem list_back {l : List Kd} (h : KOk l) (hv : ∀ k ∈ l, vecOk k.2.1) (q : List Nat) : listS (listB l ++ q, 0) = (l, (q, 0)) := by
  have hm := many_back (P := kdS) (enc := kdB) (L := l) (fun a ha q => kd_back (h.key a ha) (h.cart a ha) (hv a ha) q) q l.length (Nat.le_refl _)
  unfold listB
  rw [List.append_assoc]
  simp only [listS, bindS, small_back (x := l.length) (most := 2000) (by have := h.few; omega) (by decide), Int.toNat_natCast, hm, List.take_length, List.drop_length, List.flatMap_nil, List.nil_append]
theorem readL_back {l : List Kd} (h : KOk l) (hv : ∀ k ∈ l, vecOk k.2.1) : readL (listB l) = (l, 0) := by
  have := list_back h hv []
  rw [List.append_nil] at this
  unfold readL
  rw [this, if_neg]
  rintro (h1 | h1)
  · exact h1 rfl
  · rw [keys_iff.2 h] at h1; cases h1
/-- the carts of chapter 10's fixed calls -/
def c10 : Crt := ([1, 0, 0, 0, 0, 0, 0, 0], [(5, 1, 1, 2)])
theorem c10_right : rightF c10.1 c10.2 = true := rightF_iff.2 ⟨by decide, by decide, by decide⟩
theorem c10_no : rightF zeroV c10.2 = false := by
  cases h : rightF zeroV c10.2 with
  | false => rfl
  | true => exact absurd ((rightF_iff.1 h).2.1 0 (by decide)) (by decide)
theorem z10_right : rightF zeroV [] = true := rightF_iff.2 ⟨by decide, by decide, by decide⟩
theorem c10_vec : vecOk c10.1 := ⟨rfl, by decide⟩
theorem c10_bytes : cartB c10 = [1, 1, 0, 0, 0, 0, 0, 0, 0, 1, 1, 1, 5, 1, 1, 1, 1, 1, 4] := by decide
theorem z10_bytes : cartB (zeroV, []) = [0, 0, 0, 0, 0, 0, 0, 0, 0] := by decide
theorem w10a : withK [] [98] c10 = [([98], c10)] := rfl
theorem w10b : withK [([98], c10)] [97] (zeroV, []) = [([97], (zeroV, [])), ([98], c10)] := rfl
def l10 : List Kd := [([97], (zeroV, [])), ([98], c10)]
theorem l10_ok : KOk l10 where
  few := by decide
  up := by decide
  key := by decide
  cart := by
    intro e he
    simp only [l10, List.mem_cons, List.not_mem_nil, or_false] at he
    rcases he with rfl | rfl
    · exact z10_right
    · exact c10_right
theorem f10 : findK l10 [98] = (c10, true) := rfl
end Go.Proofs.Ytbfjcohocedoaaa.Wi
namespace Go.Proofs.Ytbfjcohocedoaaa.Wi
open Go Go.RowKit Go.Aw Go.Aw.Cart Go.Proofs.Ytbfjcohocedoaaa.Ca
set_option linter.unusedVariables false
set_option linter.unusedSimpArgs false
theorem okB_app {a b : List Nat} (ha : okB a) (hb : okB b) : okB (a ++ b) := fun c hc => (List.mem_append.1 hc).elim (ha c) (hb c)
theorem okB_flat {α : Type} {f : α → List Nat} {l : List α} (h : ∀ x ∈ l, okB (f x)) : okB (l.flatMap f) := fun c hc => by
  obtain ⟨x, hx, hc⟩ := List.mem_flatMap.1 hc
  exact h x hx c hc
theorem numB_ok (x : Nat) : okB (numB x) := fun c hc => by
  rcases List.mem_cons.1 hc with rfl | h
  · have := beF_le 8 x
    show (beF 8 x).length < 256
    omega
  · exact beF_byte 8 x c h
theorem cartB_ok (c : Crt) : okB (cartB c) := by
  refine okB_app (okB_flat fun n _ => numB_ok _) (okB_app (numB_ok _) (okB_flat fun e _ => ?_))
  exact okB_app (numB_ok _) (okB_app (numB_ok _) (okB_app (numB_ok _) (numB_ok _)))
theorem listB_ok {l : List Kd} (h : ∀ k ∈ l, okB k.1) : okB (listB l) :=
  okB_app (numB_ok _) (okB_flat fun k hk => okB_app (okB_app (numB_ok _) (h k hk)) (cartB_ok _))
end Go.Proofs.Ytbfjcohocedoaaa.Wi
namespace Go.Proofs.Ytbfjcohocedoaaa.Wi
open Go Go.RowKit Go.Aw Go.Aw.Cart Go.Proofs.Ytbfjcohocedoaaa.Ca Go.Proofs.Ytbfjcohocedoaaa.Rg
set_option linter.unusedVariables false
set_option linter.unusedSimpArgs false
set_option maxRecDepth 8000
set_option maxHeartbeats 4000000
open B1
theorem kok_nil : KOk [] := ⟨by decide, .nil, fun e h => (by cases h), fun e h => (by cases h)⟩
theorem kok_filter {l : List Kd} (p : Kd → Bool) (h : KOk l) : KOk (l.filter p) :=
  ⟨Nat.le_trans (List.length_filter_le _ _) h.few, h.up.sublist List.filter_sublist, fun e he => h.key e (List.mem_filter.1 he).1, fun e he => h.cart e (List.mem_filter.1 he).1⟩
theorem bkts_ok (l : List Kd) (part : Int) (j : Nat) : KOk ((bktsF l part).getD j []) := by
  unfold bktsF
  by_cases hr : keysF l = true
  · rw [if_pos hr]
    by_cases hj : j < 16
    · rw [bkF_get _ _ hj]
      exact kok_filter _ (kok_filter _ (keys_iff.1 hr))
    · rw [List.getD_eq_getElem?_getD, List.getElem?_eq_none (by rw [bkF_len]; omega)]; exact kok_nil
  · rw [if_neg hr, List.getD_eq_getElem?_getD, List.getElem?_replicate]
    split <;> exact kok_nil
def txsF (l : List Kd) (part : Int) : List (List Nat) := (bktsF l part).map listB
theorem txsF_len (l : List Kd) (part : Int) : (txsF l part).length = 16 := by rw [txsF, List.length_map]; exact bkts_len l part
/-- a list, and the buckets of a part of it, are no more than programs can hold -/
structure LIn (l : List Kd) : Prop where
  len : l.length ≤ 100000
  kd : ∀ k ∈ l, KdI k
  few : ∀ k ∈ l, k.2.2.length ≤ 1000000000
theorem LIn.w {l : List Kd} (h : LIn l) (part : Int) (ex : Bool) : PC Try.prog 32 [.p (.sl 10 (l.map kR) ex), .p (.i part)] True (.a ((bktsF l part).map fun b => .p (.sl 10 (b.map kR) false))) := ⟨fun _ => buckets_w l ex part h.len h.kd h.few⟩
theorem LIn.b {l : List Kd} (h : LIn l) (part : Int) (j : Nat) : PC Try.prog 34 [.p (.sl 10 (((bktsF l part).getD j []).map kR) false)] True (.tup [.one (.p (.sl 1 ((listB ((bktsF l part).getD j [])).map bR) false)), .one (.p (.i 0))]) :=
  ⟨fun _ => writeAll_ok _ false (keys_iff.2 (bkts_ok l part j)) fun k hk => h.kd k (bk_sub k hk)⟩
theorem take_put {X : List (List Kd)} {i : Nat} (h : i < X.length) (hX : X.length = 16) : ((X.take i).map listB ++ List.replicate (16 - i) []).set i (listB (X.getD i [])) = (X.take (i + 1)).map listB ++ List.replicate (16 - (i + 1)) [] := by
  have h1 : ((X.take i).map listB).length = i := by rw [List.length_map, List.length_take]; omega
  rw [List.set_append_right _ _ (by omega), h1, Nat.sub_self, show 16 - i = (16 - (i + 1)) + 1 by omega, List.replicate_succ, List.set_cons_zero]
  rw [List.take_succ_eq_append_getElem h, List.map_append, List.append_assoc, List.getD_eq_getElem?_getD, List.getElem?_eq_getElem h]; rfl
theorem texts_w (l : List Kd) (ex : Bool) (part : Int) (h : LIn l) : PCall Try.prog 25 [.p (.sl 10 (l.map kR) ex), .p (.i part)] (.a ((txsF l part).map fun b => .p (.sl 1 (b.map bR) false))) := by
  refine pcall_of Try.func25 rfl (fun w0 F S0 M0 => ?_)
  haveI hw := h.w part ex
  have hX := bkts_len l part
  have hb : ∀ j : Nat, PC Try.prog 34 [.p (.sl 10 (((bktsF l part).getD (j : Int).toNat default).map kR) false)] True (.tup [.one (.p (.sl 1 ((listB ((bktsF l part).getD (j : Int).toNat default)).map bR) false)), .one (.p (.i 0))]) := fun j => h.b part _
  unfold txsF
  obtain ⟨X, hXX⟩ : ∃ X, X = bktsF l part := ⟨_, rfl⟩
  rw [← hXX] at hw hX hb ⊢
  clear hXX
  repeat' (first | refine rnC ?_ | refine rnSB ?_ | refine rnG ?_ | refine rnU ?_ | ((fail_if_success (refine rnKn ?_)); refine rnP ?_ ?_ <;> (intro hq; try (have hq' := hq; simp only [hqs] at hq'))) | refine rkC ?_ | refine rkSB ?_ | refine rkF ?_ | refine rkU ?_ | ((fail_if_success (refine rkKn ?_)); refine rkP ?_ ?_ <;> (intro hq; try (have hq' := hq; simp only [hqs] at hq'))) | refine stp ?_ | refine ifT ?_ | refine ifF ?_ | (refine ifQ ?_ ?_ <;> (try (intro hn))) | (refine ifB ?_ ?_ <;> (intro hq; try (have hq' := hq; simp only [hqs] at hq'))))
  refine aws_says (says_arr0 (o := 5) (k := 16) (es := 1) (tyB := 0) rfl (by decide)) ?_
  refine aws_says (says_arr1 (o := 5) (L := List.replicate 16 []) rfl) ?_
  refine aws_loopS [6, 7, 11, 12, 13, 14, 15, 16, 17, 18, 19, 20, 21, 22] [5] (fun (x : Nat × List (List Nat)) => [(11, .p (.i x.1))]) (fun x => [(5, (1, some (.box 54 (x.2.map fun b => .p (.sl 1 (b.map bR) false)))))]) (fun x => x.1 ≤ 16 ∧ x.2 = (X.take x.1).map listB ++ List.replicate (16 - x.1) []) (fun x => 16 - x.1) (0, List.replicate 16 []) ⟨Nat.zero_le _, rfl⟩ (by exact knA) (by exact knA) ?_
  rintro ⟨i, Y⟩ β γ ⟨hi, hY⟩
  dsimp only at hi hY ⊢
  have hYl : Y.length = 16 := by rw [hY, List.length_append, List.length_map, List.length_take, List.length_replicate]; omega
  by_cases hil : i < 16
  · have d1 : decide ((i : Int) < 16) = true := decide_eq_true (by omega)
    haveI := hb i
    have hput := take_put (X := X) (by omega : i < X.length) hX
    rw [← hY] at hput
    as_aux_lemma =>
      repeat' (first | refine rnC ?_ | refine rnSB ?_ | refine rnG ?_ | refine rnU ?_ | ((fail_if_success (refine rnKn ?_)); refine rnP ?_ ?_ <;> (intro hq; try (have hq' := hq; simp only [hqs] at hq'))) | refine rkC ?_ | refine rkSB ?_ | refine rkF ?_ | refine rkU ?_ | ((fail_if_success (refine rkKn ?_)); refine rkP ?_ ?_ <;> (intro hq; try (have hq' := hq; simp only [hqs] at hq'))) | refine stp ?_ | refine ifT ?_ | refine ifF ?_ | (refine ifQ ?_ ?_ <;> (try (intro hn))) | (refine ifB ?_ ?_ <;> (intro hq; try (have hq' := hq; simp only [hqs] at hq'))))
      exact ⟨(i + 1, Y.set (i : Int).toNat (listB (X.getD (i : Int).toNat default))), _, by dsimp only; omega, ⟨by dsimp only; omega, by dsimp only; rw [Int.toNat_natCast]; exact hput⟩, .refl, by exact frA⟩
  · have d1 : decide ((i : Int) < 16) = false := decide_eq_false (by omega)
    obtain rfl : i = 16 := by omega
    rw [show (16 : Nat) - 16 = 0 from rfl, List.replicate_zero, List.append_nil, List.take_of_length_le (by omega)] at hY
    rw [← hY]
    as_aux_lemma =>
      repeat' (first | refine rnC ?_ | refine rnSB ?_ | refine rnG ?_ | refine rnU ?_ | ((fail_if_success (refine rnKn ?_)); refine rnP ?_ ?_ <;> (intro hq; try (have hq' := hq; simp only [hqs] at hq'))) | refine rkC ?_ | refine rkSB ?_ | refine rkF ?_ | refine rkU ?_ | ((fail_if_success (refine rkKn ?_)); refine rkP ?_ ?_ <;> (intro hq; try (have hq' := hq; simp only [hqs] at hq'))) | refine stp ?_ | refine ifT ?_ | refine ifF ?_ | (refine ifQ ?_ ?_ <;> (try (intro hn))) | (refine ifB ?_ ?_ <;> (intro hq; try (have hq' := hq; simp only [hqs] at hq'))))
      exact rc1 rfl rfl rfl rfl rfl (by rw [List.length_map]; exact hYl) finL_map rfl
/-- are bytes equal -/
theorem beq_w (a b : List Nat) (ex ey : Bool) (ha : okB a) (hb : okB b) : PCall Try.prog 27 [.p (.sl 1 (a.map bR) ex), .p (.sl 1 (b.map bR) ey)] (.p (.b (decide (a = b)))) := by
  refine pcall_of Try.func27 rfl (fun w0 F S0 M0 => ?_)
  as_aux_lemma =>
    repeat' (first | refine rnC ?_ | refine rnSB ?_ | refine rnG ?_ | refine rnU ?_ | ((fail_if_success (refine rnKn ?_)); refine rnP ?_ ?_ <;> (intro hq; try (have hq' := hq; simp only [hqs] at hq'))) | refine rkC ?_ | refine rkSB ?_ | refine rkF ?_ | refine rkU ?_ | ((fail_if_success (refine rkKn ?_)); refine rkP ?_ ?_ <;> (intro hq; try (have hq' := hq; simp only [hqs] at hq'))) | refine stp ?_ | refine ifT ?_ | refine ifF ?_ | (refine ifQ ?_ ?_ <;> (try (intro hn))) | (refine ifB ?_ ?_ <;> (intro hq; try (have hq' := hq; simp only [hqs] at hq'))))
    exact rt1 rfl rfl finS_p rfl
instance beq_i {a b : List Nat} {ex ey : Bool} : PC Try.prog 27 [.p (.sl 1 (a.map bR) ex), .p (.sl 1 (b.map bR) ey)] (okB a ∧ okB b) (.p (.b (decide (a = b)))) := ⟨fun h => beq_w a b ex ey h.1 h.2⟩
/-- a bucket -/
def ofF' (l : List Kd) (part leaf : Int) : List Kd := if 0 ≤ leaf ∧ leaf < 16 then (bktsF l part).getD leaf.toNat default else []
theorem of_w (l : List Kd) (ex : Bool) (part leaf : Int) (h : LIn l) : PCall Try.prog 15 [.p (.sl 10 (l.map kR) ex), .p (.i part), .p (.i leaf)] (.p (.sl 10 ((ofF' l part leaf).map kR) false)) := by
  refine pcall_of Try.func15 rfl (fun w0 F S0 M0 => ?_)
  haveI hw := h.w part ex
  have hX := bkts_len l part
  unfold ofF'
  by_cases h0 : leaf < 0
  · have d1 : decide (leaf < 0) = true := decide_eq_true h0
    rw [if_neg (by omega)]
    as_aux_lemma =>
      repeat' (first | refine rnC ?_ | refine rnSB ?_ | refine rnG ?_ | refine rnU ?_ | ((fail_if_success (refine rnKn ?_)); refine rnP ?_ ?_ <;> (intro hq; try (have hq' := hq; simp only [hqs] at hq'))) | refine rkC ?_ | refine rkSB ?_ | refine rkF ?_ | refine rkU ?_ | ((fail_if_success (refine rkKn ?_)); refine rkP ?_ ?_ <;> (intro hq; try (have hq' := hq; simp only [hqs] at hq'))) | refine stp ?_ | refine aws_draws [] mixed (by kernel_rfl) ?_ | refine ifT ?_ | refine ifF ?_ | (refine ifQ ?_ ?_ <;> (try (intro hn))) | (refine ifB ?_ ?_ <;> (intro hq; try (have hq' := hq; simp only [hqs] at hq'))))
      exact rt1 rfl rfl (.one .nil) rfl
  · have d1 : decide (leaf < 0) = false := decide_eq_false h0
    by_cases h1 : 16 ≤ leaf
    · have d2 : decide (16 ≤ leaf) = true := decide_eq_true h1
      rw [if_neg (by omega)]
      as_aux_lemma =>
        repeat' (first | refine rnC ?_ | refine rnSB ?_ | refine rnG ?_ | refine rnU ?_ | ((fail_if_success (refine rnKn ?_)); refine rnP ?_ ?_ <;> (intro hq; try (have hq' := hq; simp only [hqs] at hq'))) | refine rkC ?_ | refine rkSB ?_ | refine rkF ?_ | refine rkU ?_ | ((fail_if_success (refine rkKn ?_)); refine rkP ?_ ?_ <;> (intro hq; try (have hq' := hq; simp only [hqs] at hq'))) | refine stp ?_ | refine aws_draws [] mixed (by kernel_rfl) ?_ | refine ifT ?_ | refine ifF ?_ | (refine ifQ ?_ ?_ <;> (try (intro hn))) | (refine ifB ?_ ?_ <;> (intro hq; try (have hq' := hq; simp only [hqs] at hq'))))
        exact rt1 rfl rfl (.one .nil) rfl
    · have d2 : decide (16 ≤ leaf) = false := decide_eq_false h1
      rw [if_pos (by omega)]
      have hl16 : leaf < 16 := by omega
      have hl0 : 0 ≤ leaf := by omega
      generalize bktsF l part = X at hw hX ⊢
      have hlX : leaf < X.length := by omega
      as_aux_lemma =>
        repeat' (first | refine rnC ?_ | refine rnSB ?_ | refine rnG ?_ | refine rnU ?_ | ((fail_if_success (refine rnKn ?_)); refine rnP ?_ ?_ <;> (intro hq; try (have hq' := hq; simp only [hqs] at hq'))) | refine rkC ?_ | refine rkSB ?_ | refine rkF ?_ | refine rkU ?_ | ((fail_if_success (refine rkKn ?_)); refine rkP ?_ ?_ <;> (intro hq; try (have hq' := hq; simp only [hqs] at hq'))) | refine stp ?_ | refine aws_draws [] mixed (by kernel_rfl) ?_ | refine ifT ?_ | refine ifF ?_ | (refine ifQ ?_ ?_ <;> (try (intro hn))) | (refine ifB ?_ ?_ <;> (intro hq; try (have hq' := hq; simp only [hqs] at hq'))))
        exact rt1 rfl rfl finS_p rfl
theorem text_w (l : List Kd) (ex : Bool) (part leaf : Int) (h : LIn l) : PCall Try.prog 26 [.p (.sl 10 (l.map kR) ex), .p (.i part), .p (.i leaf)] (.p (.sl 1 ((listB (ofF' l part leaf)).map bR) false)) := by
  refine pcall_of Try.func26 rfl (fun w0 F S0 M0 => ?_)
  haveI : PC Try.prog 15 [.p (.sl 10 (l.map kR) ex), .p (.i part), .p (.i leaf)] True (.p (.sl 10 ((ofF' l part leaf).map kR) false)) := ⟨fun _ => of_w l ex part leaf h⟩
  have hk : KOk (ofF' l part leaf) ∧ ∀ k ∈ ofF' l part leaf, KdI k := by
    unfold ofF'
    split
    · exact ⟨bkts_ok l part _, fun k hk => h.kd k (bk_sub k hk)⟩
    · exact ⟨kok_nil, fun k hk => by cases hk⟩
  have c1 := writeAll_ok (ofF' l part leaf) false (keys_iff.2 hk.1) hk.2
  generalize ofF' l part leaf = B at this c1 ⊢
  haveI : PC Try.prog 34 [.p (.sl 10 (B.map kR) false)] True (.tup [.one (.p (.sl 1 ((listB B).map bR) false)), .one (.p (.i 0))]) := ⟨fun _ => c1⟩
  as_aux_lemma =>
    repeat' (first | refine rnC ?_ | refine rnSB ?_ | refine rnG ?_ | refine rnU ?_ | ((fail_if_success (refine rnKn ?_)); refine rnP ?_ ?_ <;> (intro hq; try (have hq' := hq; simp only [hqs] at hq'))) | refine rkC ?_ | refine rkSB ?_ | refine rkF ?_ | refine rkU ?_ | ((fail_if_success (refine rkKn ?_)); refine rkP ?_ ?_ <;> (intro hq; try (have hq' := hq; simp only [hqs] at hq'))) | refine stp ?_ | refine ifT ?_ | refine ifF ?_ | (refine ifQ ?_ ?_ <;> (try (intro hn))) | (refine ifB ?_ ?_ <;> (intro hq; try (have hq' := hq; simp only [hqs] at hq'))))
    exact rt1 rfl rfl finS_p rfl
/-- the leaves of which something is so -/
def lvTo (p : Nat → Bool) : Nat → List Int
  | 0 => []
  | k + 1 => if p k = true then lvTo p k ++ [(k : Int)] else lvTo p k
theorem lvTo_len (p : Nat → Bool) : ∀ k, (lvTo p k).length ≤ k
  | 0 => Nat.le_refl _
  | k + 1 => by
    have := lvTo_len p k
    rw [lvTo]
    split
    · rw [List.length_append, List.length_singleton]; omega
    · omega
theorem leaves_w (l : List Kd) (ex : Bool) (part : Int) (h : LIn l) : PCall Try.prog 24 [.p (.sl 10 (l.map kR) ex), .p (.i part)] (.p (.sl 1 ((lvTo (fun j => decide (0 < ((bktsF l part).getD j default).length)) 16).map fun n => [PVal.i n]) false)) := by
  refine pcall_of Try.func24 rfl (fun w0 F S0 M0 => ?_)
  haveI hw := h.w part ex
  have hX := bkts_len l part
  generalize bktsF l part = X at hw hX ⊢
  obtain ⟨A, hA⟩ : ∃ A, A = lvTo (fun j => decide (0 < (X.getD j default).length)) 16 := ⟨_, rfl⟩
  rw [← hA]
  repeat' (first | refine rnC ?_ | refine rnSB ?_ | refine rnG ?_ | refine rnU ?_ | ((fail_if_success (refine rnKn ?_)); refine rnP ?_ ?_ <;> (intro hq; try (have hq' := hq; simp only [hqs] at hq'))) | refine rkC ?_ | refine rkSB ?_ | refine rkF ?_ | refine rkU ?_ | ((fail_if_success (refine rkKn ?_)); refine rkP ?_ ?_ <;> (intro hq; try (have hq' := hq; simp only [hqs] at hq'))) | refine stp ?_ | refine ifT ?_ | refine ifF ?_ | (refine ifQ ?_ ?_ <;> (try (intro hn))) | (refine ifB ?_ ?_ <;> (intro hq; try (have hq' := hq; simp only [hqs] at hq'))))
  refine aws_says (says_nil (t := 5) (o := 21) (es := 1) (ty := 3) rfl rfl (by decide)) ?_
  refine aws_loopS [5, 6, 7, 11, 12, 13, 14, 15, 16, 17, 18, 19, 20, 21, 22] [21] (fun (x : Nat × Nat × List Int) => [(11, .p (.i x.1)), (5, .o (.osl 21 x.2.1 1 0 x.2.2.length))]) (fun x => [(21, (x.2.1 + 1, some (.buf 3 1 (x.2.2.map fun n => [PVal.i n]))))]) (fun x => x.1 ≤ 16 ∧ x.2.2 = lvTo (fun j => decide (0 < (X.getD j default).length)) x.1) (fun x => 16 - x.1) (0, 0, []) ⟨Nat.zero_le _, rfl⟩ (by exact knA) (by exact knA) ?_
  rintro ⟨i, g, out⟩ β γ ⟨hi, hout⟩
  dsimp only at hi hout ⊢
  have hol : out.length ≤ 16 := by rw [hout]; exact Nat.le_trans (lvTo_len _ _) hi
  by_cases hil : i < 16
  · have d1 : decide ((i : Int) < 16) = true := decide_eq_true (by omega)
    by_cases hp : 0 < (X.getD i default).length
    · have d2 : decide (0 < ((X.getD (i : Int).toNat default).length : Int)) = true := decide_eq_true (by rw [Int.toNat_natCast]; omega)
      have hs : lvTo (fun j => decide (0 < (X.getD j default).length)) (i + 1) = lvTo (fun j => decide (0 < (X.getD j default).length)) i ++ [(i : Int)] := by rw [lvTo, if_pos (decide_eq_true hp)]
      as_aux_lemma =>
        repeat' (first | refine rnC ?_ | refine rnSB ?_ | refine rnG ?_ | refine rnU ?_ | ((fail_if_success (refine rnKn ?_)); refine rnP ?_ ?_ <;> (intro hq; try (have hq' := hq; simp only [hqs] at hq'))) | refine rkC ?_ | refine rkSB ?_ | refine rkF ?_ | refine rkU ?_ | ((fail_if_success (refine rkKn ?_)); refine rkP ?_ ?_ <;> (intro hq; try (have hq' := hq; simp only [hqs] at hq'))) | refine stp ?_ | refine ifT ?_ | refine ifF ?_ | (refine ifQ ?_ ?_ <;> (try (intro hn))) | (refine ifB ?_ ?_ <;> (intro hq; try (have hq' := hq; simp only [hqs] at hq'))))
        exact ⟨(i + 1, g + 1, out ++ [(i : Int)]), _, by dsimp only; omega, ⟨by dsimp only; omega, by dsimp only; rw [hs, hout]⟩, .refl, by exact frA⟩
    · have d2 : decide (0 < ((X.getD (i : Int).toNat default).length : Int)) = false := decide_eq_false (by rw [Int.toNat_natCast]; omega)
      have hs : lvTo (fun j => decide (0 < (X.getD j default).length)) (i + 1) = lvTo (fun j => decide (0 < (X.getD j default).length)) i := by rw [lvTo, if_neg (by simpa using hp)]
      as_aux_lemma =>
        repeat' (first | refine rnC ?_ | refine rnSB ?_ | refine rnG ?_ | refine rnU ?_ | ((fail_if_success (refine rnKn ?_)); refine rnP ?_ ?_ <;> (intro hq; try (have hq' := hq; simp only [hqs] at hq'))) | refine rkC ?_ | refine rkSB ?_ | refine rkF ?_ | refine rkU ?_ | ((fail_if_success (refine rkKn ?_)); refine rkP ?_ ?_ <;> (intro hq; try (have hq' := hq; simp only [hqs] at hq'))) | refine stp ?_ | refine ifT ?_ | refine ifF ?_ | (refine ifQ ?_ ?_ <;> (try (intro hn))) | (refine ifB ?_ ?_ <;> (intro hq; try (have hq' := hq; simp only [hqs] at hq'))))
        exact ⟨(i + 1, g, out), _, by dsimp only; omega, ⟨by dsimp only; omega, by dsimp only; rw [hs, hout]⟩, .refl, by exact frA⟩
  · have d1 : decide ((i : Int) < 16) = false := decide_eq_false (by omega)
    obtain rfl : i = 16 := by omega
    rw [hA, ← hout]
    as_aux_lemma =>
      repeat' (first | refine rnC ?_ | refine rnSB ?_ | refine rnG ?_ | refine rnU ?_ | ((fail_if_success (refine rnKn ?_)); refine rnP ?_ ?_ <;> (intro hq; try (have hq' := hq; simp only [hqs] at hq'))) | refine rkC ?_ | refine rkSB ?_ | refine rkF ?_ | refine rkU ?_ | ((fail_if_success (refine rkKn ?_)); refine rkP ?_ ?_ <;> (intro hq; try (have hq' := hq; simp only [hqs] at hq'))) | refine stp ?_ | refine ifT ?_ | refine ifF ?_ | (refine ifQ ?_ ?_ <;> (try (intro hn))) | (refine ifB ?_ ?_ <;> (intro hq; try (have hq' := hq; simp only [hqs] at hq'))))
      exact rt1 rfl rfl (.one (finC_map rfl rfl rfl rfl)) rfl
def unlF (a b : List Kd) (part : Int) : List Int := lvTo (fun j => !decide ((txsF a part).getD j default = (txsF b part).getD j default)) 16
theorem txs_ok (l : List Kd) (part : Int) (j : Nat) (h : LIn l) : okB ((txsF l part).getD j default) := by
  have hs := fun e => bk_sub (part := part) (l := l) (j := j) e
  unfold txsF
  rw [List.getD_eq_getElem?_getD] at hs ⊢
  rw [List.getElem?_map]
  cases hB : (bktsF l part)[j]? with
  | none => exact fun c hc => by cases hc
  | some B =>
    rw [hB] at hs
    exact listB_ok fun k hk => (h.kd k (hs k hk)).key
theorem unlike_w (a b : List Kd) (ex ey : Bool) (part : Int) (ha : LIn a) (hb : LIn b) : PCall Try.prog 11 [.p (.sl 10 (a.map kR) ex), .p (.sl 10 (b.map kR) ey), .p (.i part)] (.p (.sl 1 ((unlF a b part).map fun n => [PVal.i n]) false)) := by
  refine pcall_of Try.func11 rfl (fun w0 F S0 M0 => ?_)
  have c1 := texts_w a ex part ha
  have c2 := texts_w b ey part hb
  have l1 := txsF_len a part
  have l2 := txsF_len b part
  have k1 := fun j => txs_ok a part j ha
  have k2 := fun j => txs_ok b part j hb
  unfold unlF
  generalize txsF a part = X at c1 l1 k1 ⊢
  generalize txsF b part = Y at c2 l2 k2 ⊢
  haveI : PC Try.prog 25 [.p (.sl 10 (a.map kR) ex), .p (.i part)] True (.a (X.map fun b => .p (.sl 1 (b.map bR) false))) := ⟨fun _ => c1⟩
  haveI : PC Try.prog 25 [.p (.sl 10 (b.map kR) ey), .p (.i part)] True (.a (Y.map fun b => .p (.sl 1 (b.map bR) false))) := ⟨fun _ => c2⟩
  obtain ⟨A, hA⟩ : ∃ A, A = lvTo (fun j => !decide (X.getD j default = Y.getD j default)) 16 := ⟨_, rfl⟩
  rw [← hA]
  repeat' (first | refine rnC ?_ | refine rnSB ?_ | refine rnG ?_ | refine rnU ?_ | ((fail_if_success (refine rnKn ?_)); refine rnP ?_ ?_ <;> (intro hq; try (have hq' := hq; simp only [hqs] at hq'))) | refine rkC ?_ | refine rkSB ?_ | refine rkF ?_ | refine rkU ?_ | ((fail_if_success (refine rkKn ?_)); refine rkP ?_ ?_ <;> (intro hq; try (have hq' := hq; simp only [hqs] at hq'))) | refine stp ?_ | refine aws_draws [] mixed (by kernel_rfl) ?_ | refine ifT ?_ | refine ifF ?_ | (refine ifQ ?_ ?_ <;> (try (intro hn))) | (refine ifB ?_ ?_ <;> (intro hq; try (have hq' := hq; simp only [hqs] at hq'))))
  refine aws_says (says_nil (t := 7) (o := 31) (es := 1) (ty := 3) rfl rfl (by decide)) ?_
  refine aws_loopS [7, 10, 17, 18, 19, 20, 21, 22, 23, 24, 25, 26, 27, 28, 29, 30, 31, 32] [31] (fun (x : Nat × Nat × List Int) => [(17, .p (.i x.1)), (7, .o (.osl 31 x.2.1 1 0 x.2.2.length))]) (fun x => [(31, (x.2.1 + 1, some (.buf 3 1 (x.2.2.map fun n => [PVal.i n]))))]) (fun x => x.1 ≤ 16 ∧ x.2.2 = lvTo (fun j => !decide (X.getD j default = Y.getD j default)) x.1) (fun x => 16 - x.1) (0, 0, []) ⟨Nat.zero_le _, rfl⟩ (by exact knA) (by exact knA) ?_
  rintro ⟨i, g, out⟩ β γ ⟨hi, hout⟩
  dsimp only at hi hout ⊢
  have hol : out.length ≤ 16 := by rw [hout]; exact Nat.le_trans (lvTo_len _ _) hi
  by_cases hil : i < 16
  · have d1 : decide ((i : Int) < 16) = true := decide_eq_true (by omega)
    have q1 := k1 (i : Int).toNat
    have q2 := k2 (i : Int).toNat
    by_cases hp : X.getD i default = Y.getD i default
    · have d2 : (!decide (X.getD (i : Int).toNat default = Y.getD (i : Int).toNat default)) = false := by rw [Int.toNat_natCast, decide_eq_true hp]; rfl
      have hs : lvTo (fun j => !decide (X.getD j default = Y.getD j default)) (i + 1) = lvTo (fun j => !decide (X.getD j default = Y.getD j default)) i := by rw [lvTo, if_neg (by rw [decide_eq_true hp]; simp)]
      as_aux_lemma =>
        repeat' (first | refine rnC ?_ | refine rnSB ?_ | refine rnG ?_ | refine rnU ?_ | ((fail_if_success (refine rnKn ?_)); refine rnP ?_ ?_ <;> (intro hq; try (have hq' := hq; simp only [hqs] at hq'))) | refine rkC ?_ | refine rkSB ?_ | refine rkF ?_ | refine rkU ?_ | ((fail_if_success (refine rkKn ?_)); refine rkP ?_ ?_ <;> (intro hq; try (have hq' := hq; simp only [hqs] at hq'))) | refine stp ?_ | refine aws_draws [] mixed (by kernel_rfl) ?_ | refine ifT ?_ | refine ifF ?_ | (refine ifQ ?_ ?_ <;> (try (intro hn))) | (refine ifB ?_ ?_ <;> (intro hq; try (have hq' := hq; simp only [hqs] at hq'))))
        exact ⟨(i + 1, g, out), _, by dsimp only; omega, ⟨by dsimp only; omega, by dsimp only; rw [hs, hout]⟩, .refl, by exact frA⟩
    · have d2 : (!decide (X.getD (i : Int).toNat default = Y.getD (i : Int).toNat default)) = true := by rw [Int.toNat_natCast, decide_eq_false hp]; rfl
      have hs : lvTo (fun j => !decide (X.getD j default = Y.getD j default)) (i + 1) = lvTo (fun j => !decide (X.getD j default = Y.getD j default)) i ++ [(i : Int)] := by rw [lvTo, if_pos (by rw [decide_eq_false hp]; rfl)]
      as_aux_lemma =>
        repeat' (first | refine rnC ?_ | refine rnSB ?_ | refine rnG ?_ | refine rnU ?_ | ((fail_if_success (refine rnKn ?_)); refine rnP ?_ ?_ <;> (intro hq; try (have hq' := hq; simp only [hqs] at hq'))) | refine rkC ?_ | refine rkSB ?_ | refine rkF ?_ | refine rkU ?_ | ((fail_if_success (refine rkKn ?_)); refine rkP ?_ ?_ <;> (intro hq; try (have hq' := hq; simp only [hqs] at hq'))) | refine stp ?_ | refine aws_draws [] mixed (by kernel_rfl) ?_ | refine ifT ?_ | refine ifF ?_ | (refine ifQ ?_ ?_ <;> (try (intro hn))) | (refine ifB ?_ ?_ <;> (intro hq; try (have hq' := hq; simp only [hqs] at hq'))))
        exact ⟨(i + 1, g + 1, out ++ [(i : Int)]), _, by dsimp only; omega, ⟨by dsimp only; omega, by dsimp only; rw [hs, hout]⟩, .refl, by exact frA⟩
  · have d1 : decide ((i : Int) < 16) = false := decide_eq_false (by omega)
    obtain rfl : i = 16 := by omega
    rw [hA, ← hout]
    as_aux_lemma =>
      repeat' (first | refine rnC ?_ | refine rnSB ?_ | refine rnG ?_ | refine rnU ?_ | ((fail_if_success (refine rnKn ?_)); refine rnP ?_ ?_ <;> (intro hq; try (have hq' := hq; simp only [hqs] at hq'))) | refine rkC ?_ | refine rkSB ?_ | refine rkF ?_ | refine rkU ?_ | ((fail_if_success (refine rkKn ?_)); refine rkP ?_ ?_ <;> (intro hq; try (have hq' := hq; simp only [hqs] at hq'))) | refine stp ?_ | refine aws_draws [] mixed (by kernel_rfl) ?_ | refine ifT ?_ | refine ifF ?_ | (refine ifQ ?_ ?_ <;> (try (intro hn))) | (refine ifB ?_ ?_ <;> (intro hq; try (have hq' := hq; simp only [hqs] at hq'))))
      exact rt1 rfl rfl (.one (finC_map rfl rfl rfl rfl)) rfl
end Go.Proofs.Ytbfjcohocedoaaa.Wi
