/- buckets: what stands in buckets, and all buckets of a part -/
import Derived.Test.YtclcfjejpogdlaaGreatCS30
import Derived.Test.YtclcfjejpogdlaaGreatCS31
import Derived.Test.YtclcfjejpogdlaaGreatCS32
namespace Go.Proofs.YtclcfjejpogdlaaGreat.Wi
open Go Go.RowKit Go.Aw Go.Aw.Cart Go.Proofs.YtclcfjejpogdlaaGreat.Ca Go.Proofs.YtclcfjejpogdlaaGreat.Rg
set_option linter.unusedVariables false
set_option linter.unusedSimpArgs false
set_option maxRecDepth 8000
set_option maxHeartbeats 4000000
open B1
/-- nothing is known of a cart -/
theorem empty_w (v : List Int) (l : List Ent) (ex : Bool) (hv : v.length = 8) (hl : l.length ≤ 1000000000) : PCall Tryz.prog 176 [cV v l ex] (.p (.b (emptyF (v, l)))) := by
  refine pcall_of Tryz.func176 rfl (fun w0 F S0 M0 => ?_)
  have c1 := same_w v zeroV l [] ex false hv rfl hl
  have c2 : PCall Tryz.prog 115 [cV v l ex, .a [.p (.k .u64 0), .p (.k .u64 0), .p (.k .u64 0), .p (.k .u64 0), .p (.k .u64 0), .p (.k .u64 0), .p (.k .u64 0), .p (.k .u64 0), .p (.v (.slice none 0 0))]] (.p (.b (sameF v zeroV l []))) :=
    c1.ent (.cons Ent1.refl (.cons (Ent1.cells (.cons .refl (.cons .refl (.cons .refl (.cons .refl (.cons .refl (.cons .refl (.cons .refl (.cons .refl (.cons .nil .nil)))))))))) .nil))
  haveI c3 : PC Tryz.prog 115 [cV v l ex, .a [.p (.k .u64 0), .p (.k .u64 0), .p (.k .u64 0), .p (.k .u64 0), .p (.k .u64 0), .p (.k .u64 0), .p (.k .u64 0), .p (.k .u64 0), .p (.v (.slice none 0 0))]] True (.p (.b (sameF v zeroV l []))) := ⟨fun _ => c2⟩
  unfold emptyF
  dsimp only
  as_aux_lemma =>
    repeat' (first | refine rnC ?_ | refine rnSB ?_ | refine rnG ?_ | refine rnU ?_ | ((fail_if_success (refine rnKn ?_)); refine rnP ?_ ?_ <;> (intro hq; try (have hq' := hq; simp only [hqs] at hq'))) | refine rkC ?_ | refine rkSB ?_ | refine rkF ?_ | refine rkU ?_ | ((fail_if_success (refine rkKn ?_)); refine rkP ?_ ?_ <;> (intro hq; try (have hq' := hq; simp only [hqs] at hq'))) | refine stp ?_ | refine ifT ?_ | refine ifF ?_ | (refine ifQ ?_ ?_ <;> (try (intro hn))) | (refine ifB ?_ ?_ <;> (intro hq; try (have hq' := hq; simp only [hqs] at hq'))))
    exact rt1 rfl rfl finS_p rfl
instance empty_i {v : List Int} {l : List Ent} {ex : Bool} : PC Tryz.prog 176 [cV v l ex] (v.length = 8 ∧ l.length ≤ 1000000000) (.p (.b (emptyF (v, l)))) := ⟨fun h => empty_w v l ex h.1 h.2⟩
theorem off_w (e : Kd) (h : KdI e) (hf : e.2.2.length ≤ 1000000000) : PCall Tryz.prog 175 ([kV e] ++ ([] : List PVal).map .p) (.p (.b (offF e))) := by
  refine pcall_of Tryz.func175 rfl (fun w0 F S0 M0 => ?_)
  have h8 := h.vec.1
  haveI c2 : PC Tryz.prog 109 [.p (.v (.string (strOf e.1)))] True (.p (.b (keyR e.1))) := ⟨fun _ => keyRightL_w e.1 h.key h.len⟩
  have ho : offF e = (emptyF (e.2.1, e.2.2) || !keyR e.1) := rfl
  cases he : emptyF (e.2.1, e.2.2) with
  | true =>
    rw [ho, he, Bool.true_or]
    as_aux_lemma =>
      repeat' (first | refine rnC ?_ | refine rnSB ?_ | refine rnG ?_ | refine rnU ?_ | ((fail_if_success (refine rnKn ?_)); refine rnP ?_ ?_ <;> (intro hq; try (have hq' := hq; simp only [hqs] at hq'))) | refine rkC ?_ | refine rkSB ?_ | refine rkF ?_ | refine rkU ?_ | ((fail_if_success (refine rkKn ?_)); refine rkP ?_ ?_ <;> (intro hq; try (have hq' := hq; simp only [hqs] at hq'))) | refine stp ?_ | refine aws_draws [] mixed (by kernel_rfl) ?_ | refine ifT ?_ | refine ifF ?_ | (refine ifQ ?_ ?_ <;> (try (intro hn))) | (refine ifB ?_ ?_ <;> (intro hq; try (have hq' := hq; simp only [hqs] at hq'))))
      exact rt1 rfl rfl finS_p rfl
  | false =>
    rw [ho, he, Bool.false_or]
    as_aux_lemma =>
      repeat' (first | refine rnC ?_ | refine rnSB ?_ | refine rnG ?_ | refine rnU ?_ | ((fail_if_success (refine rnKn ?_)); refine rnP ?_ ?_ <;> (intro hq; try (have hq' := hq; simp only [hqs] at hq'))) | refine rkC ?_ | refine rkSB ?_ | refine rkF ?_ | refine rkU ?_ | ((fail_if_success (refine rkKn ?_)); refine rkP ?_ ?_ <;> (intro hq; try (have hq' := hq; simp only [hqs] at hq'))) | refine stp ?_ | refine aws_draws [] mixed (by kernel_rfl) ?_ | refine ifT ?_ | refine ifF ?_ | (refine ifQ ?_ ?_ <;> (try (intro hn))) | (refine ifB ?_ ?_ <;> (intro hq; try (have hq' := hq; simp only [hqs] at hq'))))
      exact rt1 rfl rfl finS_p rfl
/-- an array's own slices, each a list -/
abbrev bkM (X : List (List Kd)) : List (Option (List (List PVal))) := (X.map fun b => b.map kR).map some
theorem lop_ld_takeK {C : Ctx} {o : Oper} {σ : St} {T : TypeId} {x : Operand} {k : TK} {sz by_ : Nat} {ob g i n d nd ty tyB : Nat} {mo0 : Option MO} {X : List (List Kd)} (ho : o.op = .load T x) (hT : TI C.P T k sz by_) (hdst : o.dst = some d) (hx : σ.look x = .o (.ptr ob g (0 + i * 1))) (hm : σ.mem ob = (n, some (.abs (arrA ty tyB 10 (bkM X))))) (hn : n = g + 1)
    (hk : k.agg = false) (hs : sz = 1) (hi : i < X.length) (hmd : σ.mem d = (nd, mo0)) (hne : d ≠ ob) (hd : dOk C o.dst = true) :
    LOp C o σ ⟨.o (.osl d nd 10 0 (X.getD i []).length), [(ob, (n, some (.abs (arrA ty tyB 10 ((bkM X).set i none))))), (d, (nd + 1, some (.buf tyB 10 ((X.getD i []).map kR))))]⟩ (fun q => q == ob || q == d) := by
  have hx' : σ.look x = .o (.ptr ob g i) := by rw [hx, Nat.zero_add, Nat.mul_one]
  have := lop_ld_take (C := C) (o := o) (rows := (X.getD i []).map kR) ho hT hdst hx' hm hn hk hs (by
    rw [List.getElem?_map, List.getElem?_map, List.getD_eq_getElem?_getD, List.getElem?_eq_getElem hi]; rfl) hmd hne hd
  rwa [List.length_map] at this
theorem lop_st_giveK {C : Ctx} {o : Oper} {σ : St} {T : TypeId} {x y : Operand} {k : TK} {sz by_ : Nat} {ob g i n d gd nd len ty tyB : Nat} {X : List (List Kd)} {B : List Kd} (ho : o.op = .store T x y) (hT : TI C.P T k sz by_) (hdst : o.dst = none) (hx : σ.look x = .o (.ptr ob g (0 + i * 1))) (hy : σ.look y = .o (.osl d gd 10 0 len)) (hm : σ.mem ob = (n, some (.abs (arrA ty tyB 10 ((bkM X).set i none))))) (hn : n = g + 1)
    (hs : sz = 1) (hi : i < X.length) (hmd : σ.mem d = (nd, some (.buf tyB 10 (B.map kR)))) (hnd : nd = gd + 1) (hlr : len = B.length) (hne : d ≠ ob) :
    LOp C o σ ⟨.un, [(ob, (n, some (.abs (arrA ty tyB 10 (bkM (X.set i B)))))), (d, (nd, none))]⟩ (fun q => q == ob || q == d) := by
  have hx' : σ.look x = .o (.ptr ob g i) := by rw [hx, Nat.zero_add, Nat.mul_one]
  have := lop_st_give (C := C) (o := o) ho hT hdst hx' hy hm hn hs (by rw [List.getElem?_set_self (by simpa using hi)]) hmd hnd (by rw [List.length_map]; exact hlr) hne
  have e : ((bkM X).set i none).set i (some (B.map kR)) = bkM (X.set i B) := by
    unfold bkM
    rw [List.set_set, List.map_set, List.map_set]
  rwa [e] at this
theorem finL_map {α : Type} {σ : St} {K : Nat → Bool} {f : α → PVal} {l : List α} : All2 (FinC σ K) (l.map fun a => .p (f a)) (l.map fun a => .p (f a)) := by
  refine ⟨rfl, fun i a b ha hb => ?_⟩
  rw [ha] at hb; obtain rfl := Option.some.inj hb
  rw [List.getElem?_map] at ha
  obtain ⟨x, _, rfl⟩ := Option.map_eq_some_iff.1 ha
  exact .p
theorem ent_fnc {f : FuncId} : Ent1 (.p (.v (.func (.func f) #[] #[]))) (.p (.fnv f [])) := by
  rintro μ X v ⟨rfl, _⟩
  exact ⟨[], rfl, .nil⟩
theorem ro_two {ops : Array Oper} {W : List (Nat × Nat)} {i a b : Nat} (h : okObj ops W i a = true) (k : okObj ops W i b = true) : ∀ x, (fun q : Nat => q == a || q == b) x = true → okObj ops W i x = true := fun x hx => by
  rcases Bool.or_eq_true_iff.1 hx with q | q
  · rw [beq_iff_eq.1 q]; exact h
  · rw [beq_iff_eq.1 q]; exact k
theorem ob_two {W : List (Nat × Nat)} {i x y : Nat} {m m' : Nat × Option MO} (h : (i, x) ∈ W) (k : (i, y) ∈ W) : ∀ p ∈ [(x, m), (y, m')], (i, p.1) ∈ W := fun p hp => by
  simp only [List.mem_cons, List.not_mem_nil, or_false] at hp
  rcases hp with rfl | rfl
  · exact h
  · exact k
theorem buckets_w (l : List Kd) (ex : Bool) (part : Int) (hl : l.length ≤ 100000) (hin : ∀ k ∈ l, KdI k) (hf : ∀ k ∈ l, k.2.2.length ≤ 1000000000) : PCall Tryz.prog 81 [.p (.sl 10 (l.map kR) ex), .p (.i part)] (.a ((bktsF l part).map fun b => .p (.sl 10 (b.map kR) false))) := by
  refine pcall_of Tryz.func81 rfl (fun w0 F S0 M0 => ?_)
  have c0 := pright_w l ex (by omega) hin hf
  repeat' (first | refine rnC ?_ | refine rnSB ?_ | refine rnG ?_ | refine rnU ?_ | ((fail_if_success (refine rnKn ?_)); refine rnP ?_ ?_ <;> (intro hq; try (have hq' := hq; simp only [hqs] at hq'))) | refine rkC ?_ | refine rkSB ?_ | refine rkF ?_ | refine rkU ?_ | ((fail_if_success (refine rkKn ?_)); refine rkP ?_ ?_ <;> (intro hq; try (have hq' := hq; simp only [hqs] at hq'))) | refine stp ?_ | refine ifT ?_ | refine ifF ?_ | (refine ifQ ?_ ?_ <;> (try (intro hn))) | (refine ifB ?_ ?_ <;> (intro hq; try (have hq' := hq; simp only [hqs] at hq'))))
  refine rn_says (says_arr0 (o := 5) (k := 16) (es := 10) (tyB := 148) rfl (by decide)) rfl ?_
  unfold bktsF
  cases hr : keysF l with
  | false =>
    rw [hr] at c0
    haveI : PC Tryz.prog 108 [.p (.sl 10 (l.map kR) ex)] True (.p (.b false)) := ⟨fun _ => c0⟩
    rw [if_neg (by simp)]
    refine rn_says (says_arr1 (o := 5) (L := List.replicate 16 []) rfl) rfl ?_
    as_aux_lemma =>
      repeat' (first | refine rnC ?_ | refine rnSB ?_ | refine rnG ?_ | refine rnU ?_ | ((fail_if_success (refine rnKn ?_)); refine rnP ?_ ?_ <;> (intro hq; try (have hq' := hq; simp only [hqs] at hq'))) | refine rkC ?_ | refine rkSB ?_ | refine rkF ?_ | refine rkU ?_ | ((fail_if_success (refine rkKn ?_)); refine rkP ?_ ?_ <;> (intro hq; try (have hq' := hq; simp only [hqs] at hq'))) | refine stp ?_ | refine ifT ?_ | refine ifF ?_ | (refine ifQ ?_ ?_ <;> (try (intro hn))) | (refine ifB ?_ ?_ <;> (intro hq; try (have hq' := hq; simp only [hqs] at hq'))))
      exact rc1 rfl rfl rfl rfl rfl rfl (finL_map (l := List.replicate 16 ([] : List (List PVal)))) rfl
  | true =>
    rw [hr] at c0
    haveI : PC Tryz.prog 108 [.p (.sl 10 (l.map kR) ex)] True (.p (.b true)) := ⟨fun _ => c0⟩
    rw [if_pos rfl]
    have hS : ∀ e ∈ stF l, okB e.1 ∧ e.1.length ≤ 20 := fun e he => ⟨(hin e (st_sub e he)).key, (keys_iff.1 hr).key e (st_sub e he)⟩
    have hSl : (stF l).length ≤ 100000 := Nat.le_trans (st_len l) hl
    have dl : OCall Tryz.prog 174 [.o (.osl 1000 1 10 0 l.length), .p (.fnv 175 [])] (memL [(1000, (1 + 1, some (.buf 148 10 (l.map kR))))]) (.o (.osl 1000 1 10 0 (stF l).length)) (memL [(1000, (1 + 1, some (.buf 148 10 ((stF l).map kR))))]) :=
      deleteFuncK_o 175 [] inferInstance offF 1 l (by omega) fun e he => off_w e (hin e he) (hf e he)
    generalize stF l = S at hS hSl dl ⊢
    haveI : OC Tryz.prog 174 [.o (.osl 16 1 10 0 l.length), .p (.v (.func (.func 175) #[] #[]))] [(16, (2, some (.buf 148 10 (l.map kR))))] [] True (.o (.osl 16 1 10 0 S.length)) [(16, (2, some (.buf 148 10 (S.map kR))))] := ⟨fun _ => (dl.one 16).ent (.cons Ent1.refl (.cons ent_fnc .nil))⟩
    have hl6 : l.length ≤ 1000000 := by omega
    repeat' (first | refine rnC ?_ | refine rnSB ?_ | refine rnG ?_ | refine rnU ?_ | ((fail_if_success (refine rnKn ?_)); refine rnP ?_ ?_ <;> (intro hq; try (have hq' := hq; simp only [hqs] at hq'))) | refine rkC ?_ | refine rkSB ?_ | refine rkF ?_ | refine rkU ?_ | ((fail_if_success (refine rkKn ?_)); refine rkP ?_ ?_ <;> (intro hq; try (have hq' := hq; simp only [hqs] at hq'))) | refine stp ?_ | refine ifT ?_ | refine ifF ?_ | (refine ifQ ?_ ?_ <;> (try (intro hn))) | (refine ifB ?_ ?_ <;> (intro hq; try (have hq' := hq; simp only [hqs] at hq'))))
    refine aws_loopS [8, 9, 10, 20, 21, 22, 23, 24, 25, 26, 27, 28, 29, 30, 31, 32, 33, 34, 35, 36, 37, 38, 39, 40, 41] [5, 8, 36] (fun (x : Nat × List (List Kd) × Nat × Option MO) => [(20, .p (.i x.1))]) (fun x => [(5, (1, some (.abs (arrA 153 148 10 (bkM x.2.1))))), (8, (x.1, x.2.2.2)), (36, (x.2.2.1, none))]) (fun x => x.1 ≤ S.length ∧ x.2.1 = bkF part (S.take x.1)) (fun x => S.length - x.1) (0, List.replicate 16 [], 0, none) ⟨Nat.zero_le _, rfl⟩ (by exact knA) (by exact knA) ?_
    rintro ⟨i, X, g, m8⟩ β γ ⟨hi, hX⟩
    dsimp only at hi hX ⊢
    by_cases hil : i < S.length
    · have d1 : decide ((i : Int) < (S.length : Int)) = true := decide_eq_true (by omega)
      have ei : (i : Int).toNat = i := Int.toNat_natCast i
      obtain ⟨e, he⟩ : ∃ e, e = S.getD (i : Int).toNat default := ⟨_, rfl⟩
      have hme : e ∈ S := by rw [he, ei, getD_at hil]; exact List.getElem_mem _
      have hst : S.take (i + 1) = S.take i ++ [e] := by rw [takeK_get hil, he, ei]
      obtain ⟨q1, q2⟩ := hS e hme
      have q3 : e.1.length ≤ 1000000 := by omega
      have hlf := leaf_lt e.1
      have hXl : X.length = 16 := by rw [hX]; exact bkF_len _ _
      have hle : leafF e.1 < X.length := by omega
      by_cases hp : (partF e.1 : Int) = part
      · have d2 : decide ((partF e.1 : Int) = part) = true := decide_eq_true hp
        have hput := bk_put (L := S.take i) hp
        rw [← hst, ← hX] at hput
        have hroom : (X.getD (leafF e.1 : Int).toNat []).length ≤ 100000 := by
          rw [Int.toNat_natCast, hX, bkF_get _ _ hlf]
          exact Nat.le_trans (List.length_filter_le _ _) (by rw [List.length_take]; omega)
        have hmax : (100000 : Nat) + 1 ≤ maxLen := by decide
        rw [he] at d2 q1 q2 q3 hlf hle hroom
        repeat' (first | refine rnC ?_ | refine rnSB ?_ | refine rnG ?_ | refine rnU ?_ | ((fail_if_success (refine rnKn ?_)); refine rnP ?_ ?_ <;> (intro hq; try (have hq' := hq; simp only [hqs] at hq'))) | refine rkC ?_ | refine rkSB ?_ | refine rkF ?_ | refine rkU ?_ | ((fail_if_success (refine rkKn ?_)); refine rkP ?_ ?_ <;> (intro hq; try (have hq' := hq; simp only [hqs] at hq'))) | refine stp ?_ | refine ifT ?_ | refine ifF ?_ | (refine ifQ ?_ ?_ <;> (try (intro hn))) | (refine ifB ?_ ?_ <;> (intro hq; try (have hq' := hq; simp only [hqs] at hq'))))
        refine aws_draws [(3, 5), (3, 36), (6, 36), (8, 5), (8, 36)] mixed (by kernel_rfl) ?_
        repeat' (first | refine rnC ?_ | refine rnSB ?_ | refine rnG ?_ | refine rnU ?_ | ((fail_if_success (refine rnKn ?_)); refine rnP ?_ ?_ <;> (intro hq; try (have hq' := hq; simp only [hqs] at hq'))) | refine rkC ?_ | refine rkSB ?_ | refine rkF ?_ | refine rkU ?_ | ((fail_if_success (refine rkKn ?_)); refine rkP ?_ ?_ <;> (intro hq; try (have hq' := hq; simp only [hqs] at hq'))) | refine stp ?_ | refine aws_draws [] mixed (by kernel_rfl) ?_ | refine ifT ?_ | refine ifF ?_ | (refine ifQ ?_ ?_ <;> (try (intro hn))) | (refine ifB ?_ ?_ <;> (intro hq; try (have hq' := hq; simp only [hqs] at hq'))))
        refine rkA (h := lop_ld_takeK (X := X) (by rfl) (by infer_instance) (by rfl) (by rfl) (by rfl) (by rfl) (by rfl) (by rfl) (by rw [Int.toNat_natCast]; exact hle) (by rfl) (by decide) (by rfl)) (hro := ro_two (by kernel_rfl) (by kernel_rfl)) (hob := ob_two (by decide) (by decide)) ?_
        repeat' (first | refine rnC ?_ | refine rnSB ?_ | refine rnG ?_ | refine rnU ?_ | ((fail_if_success (refine rnKn ?_)); refine rnP ?_ ?_ <;> (intro hq; try (have hq' := hq; simp only [hqs] at hq'))) | refine rkC ?_ | refine rkSB ?_ | refine rkF ?_ | refine rkU ?_ | ((fail_if_success (refine rkKn ?_)); refine rkP ?_ ?_ <;> (intro hq; try (have hq' := hq; simp only [hqs] at hq'))) | refine stp ?_ | refine aws_draws [] mixed (by kernel_rfl) ?_ | refine ifT ?_ | refine ifF ?_ | (refine ifQ ?_ ?_ <;> (try (intro hn))) | (refine ifB ?_ ?_ <;> (intro hq; try (have hq' := hq; simp only [hqs] at hq'))))
        refine rk_sto (gd_n rfl rfl) rfl (lop_st_giveK (X := X) (B := X.getD (leafF (S.getD (i : Int).toNat default).1 : Int).toNat [] ++ [(S.getD (i : Int).toNat default)]) (by rfl) (by infer_instance) (by rfl) (by rfl) (by rfl) (by rfl) (by rfl) (by rfl) (by rw [Int.toNat_natCast]; exact hle) (by rfl) (by rfl) (by rfl) (by decide)) (ro_two (by kernel_rfl) (by kernel_rfl)) (ob_two (by decide) (by decide)) ?_
        as_aux_lemma =>
          repeat' (first | refine rnC ?_ | refine rnSB ?_ | refine rnG ?_ | refine rnU ?_ | ((fail_if_success (refine rnKn ?_)); refine rnP ?_ ?_ <;> (intro hq; try (have hq' := hq; simp only [hqs] at hq'))) | refine rkC ?_ | refine rkSB ?_ | refine rkF ?_ | refine rkU ?_ | ((fail_if_success (refine rkKn ?_)); refine rkP ?_ ?_ <;> (intro hq; try (have hq' := hq; simp only [hqs] at hq'))) | refine stp ?_ | refine aws_draws [] mixed (by kernel_rfl) ?_ | refine ifT ?_ | refine ifF ?_ | (refine ifQ ?_ ?_ <;> (try (intro hn))) | (refine ifB ?_ ?_ <;> (intro hq; try (have hq' := hq; simp only [hqs] at hq'))))
          exact ⟨(i + 1, X.set (leafF (S.getD (i : Int).toNat default).1 : Int).toNat (X.getD (leafF (S.getD (i : Int).toNat default).1 : Int).toNat [] ++ [(S.getD (i : Int).toNat default)]), g + 2, _), _, by dsimp only; omega, ⟨by dsimp only; omega, by dsimp only; rw [hput, he]; simp only [Int.toNat_natCast]⟩, .refl, by exact frA⟩
      · have d2 : decide ((partF e.1 : Int) = part) = false := decide_eq_false hp
        have hput := bk_skip (L := S.take i) hp
        rw [← hst, ← hX] at hput
        rw [he] at d2 q1 q2 q3 hlf hle
        as_aux_lemma =>
          repeat' (first | refine rnC ?_ | refine rnSB ?_ | refine rnG ?_ | refine rnU ?_ | ((fail_if_success (refine rnKn ?_)); refine rnP ?_ ?_ <;> (intro hq; try (have hq' := hq; simp only [hqs] at hq'))) | refine rkC ?_ | refine rkSB ?_ | refine rkF ?_ | refine rkU ?_ | ((fail_if_success (refine rkKn ?_)); refine rkP ?_ ?_ <;> (intro hq; try (have hq' := hq; simp only [hqs] at hq'))) | refine stp ?_ | refine ifT ?_ | refine ifF ?_ | (refine ifQ ?_ ?_ <;> (try (intro hn))) | (refine ifB ?_ ?_ <;> (intro hq; try (have hq' := hq; simp only [hqs] at hq'))))
          exact ⟨(i + 1, X, g, _), _, by dsimp only; omega, ⟨by dsimp only; omega, by dsimp only; exact hput.symm⟩, .refl, by exact frA⟩
    · have d1 : decide ((i : Int) < (S.length : Int)) = false := decide_eq_false (by omega)
      obtain rfl : i = S.length := by omega
      rw [List.take_length] at hX
      rw [← hX]
      have hXl : X.length = 16 := by rw [hX]; exact bkF_len _ _
      clear hX
      repeat' (first | refine rnC ?_ | refine rnSB ?_ | refine rnG ?_ | refine rnU ?_ | ((fail_if_success (refine rnKn ?_)); refine rnP ?_ ?_ <;> (intro hq; try (have hq' := hq; simp only [hqs] at hq'))) | refine rkC ?_ | refine rkSB ?_ | refine rkF ?_ | refine rkU ?_ | ((fail_if_success (refine rkKn ?_)); refine rkP ?_ ?_ <;> (intro hq; try (have hq' := hq; simp only [hqs] at hq'))) | refine stp ?_ | refine ifT ?_ | refine ifF ?_ | (refine ifQ ?_ ?_ <;> (try (intro hn))) | (refine ifB ?_ ?_ <;> (intro hq; try (have hq' := hq; simp only [hqs] at hq'))))
      refine rn_says (says_arr1 (o := 5) (L := X.map fun b => b.map kR) rfl) rfl ?_
      have hXm : ((X.map fun b => b.map kR).map fun rows => AC.p (.sl 10 rows false)).length = 16 := by rw [List.length_map, List.length_map]; exact hXl
      as_aux_lemma =>
        repeat' (first | refine rnC ?_ | refine rnSB ?_ | refine rnG ?_ | refine rnU ?_ | ((fail_if_success (refine rnKn ?_)); refine rnP ?_ ?_ <;> (intro hq; try (have hq' := hq; simp only [hqs] at hq'))) | refine rkC ?_ | refine rkSB ?_ | refine rkF ?_ | refine rkU ?_ | ((fail_if_success (refine rkKn ?_)); refine rkP ?_ ?_ <;> (intro hq; try (have hq' := hq; simp only [hqs] at hq'))) | refine stp ?_ | refine ifT ?_ | refine ifF ?_ | (refine ifQ ?_ ?_ <;> (try (intro hn))) | (refine ifB ?_ ?_ <;> (intro hq; try (have hq' := hq; simp only [hqs] at hq'))))
        refine rc1 rfl rfl rfl rfl rfl hXm (finL_map (l := X.map fun b => b.map kR)) ?_
        rw [List.map_map]; rfl
end Go.Proofs.YtclcfjejpogdlaaGreat.Wi
