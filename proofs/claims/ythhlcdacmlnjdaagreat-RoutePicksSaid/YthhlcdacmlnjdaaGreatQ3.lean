/- sync.Once, raw: what is done is met by a contract (turned from the kit's worked texts over a Once); rings: a ring as one object; the points, laid at the first call; the membership; rings: points looked through, and one behind the other; numbers looked through; rings: the least point of a part; rings: the reference's list of a part; rings: a ring's points, owners, and lists -/
import Derived.Test.YthhlcdacmlnjdaaGreatProg
import Derived.WalkKit
import Derived.Defers
import Derived.Laws.LoneSync
import Derived.RegionCalls
import Derived.Laws.NewBlocks
import Derived.Test.YthhlcdacmlnjdaaGreatQ1
import Derived.Test.YthhlcdacmlnjdaaGreatKg
namespace Go.Proofs.YthhlcdacmlnjdaaGreat.On
open Go
set_option linter.unusedVariables false
set_option linter.unusedSimpArgs false
set_option maxRecDepth 100000
set_option maxHeartbeats 1600000
theorem disable (w : World) : (callFunc 101 #[]).run Tryz.prog w = .ok (.value (.tuple #[])) w := run_call_mark0 Tryz.func101 (by kernel_rfl) (by kernel_rfl) (by kernel_rfl) .disable (by kernel_rfl) w
theorem enable (w : World) : (callFunc 103 #[]).run Tryz.prog w = .ok (.value (.tuple #[])) w := run_call_mark0 Tryz.func103 (by kernel_rfl) (by kernel_rfl) (by kernel_rfl) .enable (by kernel_rfl) w
theorem acquire (a : Addr) (w : World) : (callFunc 104 #[.pointer (some a)]).run Tryz.prog w = .ok (.value (.tuple #[])) w := run_call_marked Tryz.func104 (by kernel_rfl) (by kernel_rfl) (by kernel_rfl) .acquire (by kernel_rfl) a w
theorem releaseMerge (a : Addr) (w : World) : (callFunc 106 #[.pointer (some a)]).run Tryz.prog w = .ok (.value (.tuple #[])) w := run_call_marked Tryz.func106 (by kernel_rfl) (by kernel_rfl) (by kernel_rfl) .releaseMerge (by kernel_rfl) a w
/-- '(*sync/atomic.Bool).Store(true)', as a deferred call -/
theorem store_deferred (a : Addr) (x : Value) (u : FrameMode) (w : World) (hc : w.cell? a = some x) (hz : w.frozen? a = false) :
    CallsD Tryz.prog 76 #[.pointer (some a), .bool true] u w fun e u' w' => u' = u ∧ (e = .returned (.tuple #[]) ∧ w' = w.drew.setCell a (.int .u32 1)) := by
  have hc' : w.drew.cell? a = some x := by go_simp
  have hz' : w.drew.frozen? a = false := by go_simp
  have hst := run_call_store (P := Tryz.prog) Tryz.func84 (by kernel_rfl) (by kernel_rfl) (by kernel_rfl) (by kernel_rfl) (k := .u32) (y := 1) hc' hz'
  go_enter_d Tryz.func76, Tryz.ntmps76
  go_wp2
  go_region_calls
  all_goals (go_end0; exact ⟨rfl, rfl⟩)
/-- '(*sync.Mutex).Unlock', as a deferred call, the lock held and nobody waiting -/
theorem unlock_deferred (a : Addr) (u : FrameMode) (w : World) (hc : w.cell? a = some (.int .i32 1)) (hz : w.frozen? a = false) :
    CallsD Tryz.prog 75 #[.pointer (some a)] u w fun e u' w' => u' = u ∧ (e = .returned (.tuple #[]) ∧ w' = w.setCell a (.int .i32 0)) := by
  have hd := disable
  have he := enable
  have hr := releaseMerge
  have hadd := run_call_add (P := Tryz.prog) Tryz.func107 (by kernel_rfl) (by kernel_rfl) (by kernel_rfl) .i32 (by kernel_rfl) (y := -1) (s := 0) hc hz (by simp [go_sem]; rfl)
  have hcv := run_convert_to_unsafe (P := Tryz.prog) (src := 147) (dst := 151) Tryz.underlying147 Tryz.underlying151 (by kernel_rfl) hc
  go_enter_d Tryz.func75, Tryz.ntmps75
  go_wp2
  go_end0
  go_wp2
  go_end0
  exact ⟨rfl, rfl⟩
/-- '(*sync.Mutex).Lock', the lock free -/
theorem lock_free (a : Addr) (w : World) (hc : w.cell? a = some (.int .i32 0)) (hz : w.frozen? a = false) :
    Calls Tryz.prog 74 #[.pointer (some a)] w fun e w' => e = .returned (.tuple #[]) ∧ w' = w.setCell a (.int .i32 1) := by
  have hd := disable
  have he := enable
  have ha := acquire
  have hcas := run_call_cas_hit (P := Tryz.prog) Tryz.func102 (by kernel_rfl) (by kernel_rfl) (by kernel_rfl) .i32 (by kernel_rfl) (y := 1) hc hz
  have hc' : (w.setCell a (.int .i32 1)).cell? a = some (.int .i32 1) := World.cell?_setCell_same w a _ hc
  have hcv := run_convert_to_unsafe (P := Tryz.prog) (src := 147) (dst := 151) Tryz.underlying147 Tryz.underlying151 (by kernel_rfl) hc'
  go_enter Tryz.func74, Tryz.ntmps74
  go_wp2
  first | go_end0 | (simp only [Exit.inBlock, Exit.then]; refine bodyPost_ret (results_none rfl _ _ _) rfl ?_) | refine bodyPost_ret (results_none rfl _ _ _) rfl ?_
  go_wp2
  go_end0
  exact ⟨rfl, rfl⟩
set_option maxRecDepth 100000 in
set_option maxHeartbeats 1600000 in
/-- '(*sync.Once).doSlow', not yet done and the lock free -/
theorem slow_any (b off : Nat) (rcv : Value) (w : World) (R : World → Prop)
    (h0 : w.cell? ⟨b, off, none⟩ = some (.int .u32 0)) (h1 : w.cell? ⟨b, off + 1, none⟩ = some (.int .i32 0)) (f0 : w.frozen? ⟨b, off, none⟩ = false) (f1 : w.frozen? ⟨b, off + 1, none⟩ = false)
    (hL : Calls Tryz.prog 55 #[rcv] (w.setCell ⟨b, off + 1, none⟩ (.int .i32 1)) (fun e w' => e = .returned (.tuple #[]) ∧ R w'))
    (hR : ∀ w', R w' → w'.cell? ⟨b, off, none⟩ = some (.int .u32 0) ∧ w'.cell? ⟨b, off + 1, none⟩ = some (.int .i32 1) ∧ w'.frozen? ⟨b, off, none⟩ = false ∧ w'.frozen? ⟨b, off + 1, none⟩ = false) :
    Calls Tryz.prog 63 #[.pointer (some ⟨b, off, none⟩), .func (.func 55) #[rcv] #[]] w fun e w' => e = .returned (.tuple #[]) ∧
      ∃ w2, R w2 ∧ w' = (w2.drew.setCell ⟨b, off, none⟩ (.int .u32 1)).setCell ⟨b, off + 1, none⟩ (.int .i32 0) := by
  have hl := run_call_load (P := Tryz.prog) Tryz.func73 (by kernel_rfl) (by kernel_rfl) (by kernel_rfl) .u32 (by kernel_rfl) (w := w.setCell ⟨b, off + 1, none⟩ (.int .i32 1)) (a := ⟨b, off, none⟩) (x := 0) ((World.cell?_setCell_other _ ⟨b, off + 1, none⟩ ⟨b, off, none⟩ _ (by simp)).trans h0)
  have hnot : ∀ (x : Bool) (w : World), (Op.unary .not (.bool x)).run Tryz.prog w = .ok (.bool (!x)) w := fun _ _ => rfl
  go_enter_defers Tryz.func63, Tryz.ntmps63
  go_wp2_with (first | (go_at_call 74; refine (lock_free ⟨b, off + 1, none⟩ _ h1 f1).mono ?_; rintro e w' ⟨rfl, rfl⟩) | (go_at_call 62; go_in) | (go_at_call 55; refine hL.mono ?_; rintro e w2 ⟨rfl, hw2⟩))
  obtain ⟨k0, k1, k2, k3⟩ := hR w2 hw2
  refine leaves_cons (f := 76) (args := #[.pointer (some ⟨b, off, none⟩), .bool true]) (by simp) (by simp [go_sem]) ?_
  refine (store_deferred ⟨b, off, none⟩ (.int .u32 0) .returning _ k0 k2).mono ?_
  rintro e u' w'' ⟨rfl, rfl, rfl⟩
  refine leaves_cons (f := 75) (args := #[.pointer (some ⟨b, off + 1, none⟩)]) (by simp [settle]) (by simp [go_sem]) ?_
  refine (unlock_deferred ⟨b, off + 1, none⟩ _ _ ?_ (by simp [k3])).mono ?_
  · refine (World.cell?_setCell_other _ ⟨b, off, none⟩ ⟨b, off + 1, none⟩ _ (by simp)).trans ?_
    rw [World.cell?_drew]
    exact k1
  rintro e u' w'' ⟨rfl, rfl, rfl⟩
  simp [Leaves, settle, results, Tryz.results63]
  exact ⟨w2, hw2, rfl⟩
set_option maxRecDepth 100000 in
set_option maxHeartbeats 1600000 in
/-- '(*sync.Once).Do', not yet done, the lock free -/
theorem do_first (b off : Nat) (rcv : Value) (w : World) (R : World → Prop)
    (h0 : w.cell? ⟨b, off, none⟩ = some (.int .u32 0)) (h1 : w.cell? ⟨b, off + 1, none⟩ = some (.int .i32 0)) (f0 : w.frozen? ⟨b, off, none⟩ = false) (f1 : w.frozen? ⟨b, off + 1, none⟩ = false)
    (hL : Calls Tryz.prog 55 #[rcv] (w.setCell ⟨b, off + 1, none⟩ (.int .i32 1)) (fun e w' => e = .returned (.tuple #[]) ∧ R w'))
    (hR : ∀ w', R w' → w'.cell? ⟨b, off, none⟩ = some (.int .u32 0) ∧ w'.cell? ⟨b, off + 1, none⟩ = some (.int .i32 1) ∧ w'.frozen? ⟨b, off, none⟩ = false ∧ w'.frozen? ⟨b, off + 1, none⟩ = false) :
    Calls Tryz.prog 54 #[.pointer (some ⟨b, off, none⟩), .func (.func 55) #[rcv] #[]] w fun e w' => e = .returned (.tuple #[]) ∧
      ∃ w2, R w2 ∧ w' = (w2.drew.setCell ⟨b, off, none⟩ (.int .u32 1)).setCell ⟨b, off + 1, none⟩ (.int .i32 0) := by
  have hl := run_call_load (P := Tryz.prog) Tryz.func73 (by kernel_rfl) (by kernel_rfl) (by kernel_rfl) .u32 (by kernel_rfl) h0
  have hnot : ∀ (x : Bool) (w : World), (Op.unary .not (.bool x)).run Tryz.prog w = .ok (.bool (!x)) w := fun _ _ => rfl
  go_enter Tryz.func54, Tryz.ntmps54
  go_wp2_with (first | (go_at_call 63; refine (slow_any b off rcv _ R h0 h1 f0 f1 hL hR).mono ?_; rintro e w' ⟨rfl, hw'⟩) | (go_at_call 62; go_in))
  go_end0
  exact ⟨rfl, hw'⟩
/-- '(*sync.Once).Do', done already -/
theorem do_done (a : Addr) (d : Int) (hd : ¬ d = 0) (fv : Value) (w : World) (h0 : w.cell? a = some (.int .u32 d)) :
    Calls Tryz.prog 54 #[.pointer (some a), fv] w fun e w' => e = .returned (.tuple #[]) ∧ w' = w := by
  have hl := run_call_load (P := Tryz.prog) Tryz.func73 (by kernel_rfl) (by kernel_rfl) (by kernel_rfl) .u32 (by kernel_rfl) h0
  have hnot : ∀ (x : Bool) (w : World), (Op.unary .not (.bool x)).run Tryz.prog w = .ok (.bool (!x)) w := fun _ _ => rfl
  have hd' : (d != 0) = true := by simp [hd]
  go_enter Tryz.func54, Tryz.ntmps54
  go_wp2
  go_end0
  exact ⟨rfl, rfl⟩
end Go.Proofs.YthhlcdacmlnjdaaGreat.On
namespace Go.Proofs.YthhlcdacmlnjdaaGreat.Rg
open Go Go.RowKit Go.Aw Go.Aw.Cart Go.Aw.Ord Go.Sort Go.Proofs.YthhlcdacmlnjdaaGreat.Ca
set_option linter.unusedVariables false
set_option linter.unusedSimpArgs false
set_option maxRecDepth 8000
set_option maxHeartbeats 4000000
/-- a ring's cells: its membership, and, once it was asked, its points -/
def ringT : Bool → Nat → Nat → List PVal
  | false, n, v => [.k .u32 0, .k .i32 0, .k .u32 0, .v (.slice none 0 0)]
  | true, n, v => [.k .u32 1, .k .i32 0, .k .u32 0, .sl 2 ((pts n v).map pR) false]
def ringP (d : Bool) (n v r : Nat) : List PVal := .i n :: .i v :: .i r :: ringT d n v
abbrev ringB (d : Bool) (n v r : Nat) : MO := .box 71 ((ringP d n v r).map .p)
/-- a ring, asked or not -/
abbrev ringM (n v r : Nat) : MO := .abs (orA 71 fun d => ringP d n v r)
theorem once_raw : OnceRaw Tryz.prog 54 55 3 := fun b w R h0 h1 f0 f1 hL hR => On.do_first b 3 _ w R h0 h1 f0 f1 hL hR
theorem once_d (q n v r : Nat) (d : Bool) (hn : n ≤ 8) (hv : v ≤ 16) : OCall Tryz.prog 54 [.o (.ptr 1000 q 3), .o (.bm 55 1000 q 0)] (memL [(1000, (q + 1, some (ringB d n v r)))]) (.tup []) (memL [(1000, (q + 1, some (ringB true n v r)))]) := by
  cases d with
  | false => exact once_o (ty := 71) (cs := (ringP false n v r).map .p) once_raw rfl rfl rfl rfl (lay_o q n v r hn hv)
  | true => exact once_done (d := 1) (fun a fv w h => On.do_done a 1 (by decide) fv w h) rfl
theorem ringB_ren {ρ : Rn} {d : Bool} {n v r : Nat} : (ringB d n v r).ren ρ = ringB d n v r := by cases d <;> rfl
instance once_i {c g m n v r : Nat} {d : Bool} : OC Tryz.prog 54 [.o (.ptr c g (0 + 3)), .o (.bm 55 c g 0)] [(c, (m, some (ringB d n v r)))] [] (m = g + 1 ∧ n ≤ 8 ∧ v ≤ 16) (.tup []) [(c, (m, some (ringB true n v r)))] := ⟨fun h => by obtain ⟨rfl, h1, h2⟩ := h; have := (once_d g n v r d h1 h2).one c; rw [ringB_ren, Option.map_some, ringB_ren] at this; exact this⟩
theorem lop_ld_c3 {C : Ctx} {o : Oper} {σ : St} {T : TypeId} {x : Operand} {k : TK} {sz by_ : Nat} {ob g off n : Nat} {ty : TypeId} {cs l : List AC} {c0 c1 c2 : AC} (ho : o.op = .load T x) (hT : TI C.P T k sz by_) (hx : σ.look x = .o (.ptr ob g off)) (hm : σ.mem ob = (n, some (.box ty cs))) (hn : n = g + 1) (hk : k.agg = true) (hs : sz = 3) (h0 : off = 0) (hc : cs = c0 :: c1 :: c2 :: l) (hd : dOk C o.dst = true) :
    LOp C o σ ⟨.a [c0, c1, c2], []⟩ (fun y => y == ob) := by
  subst hs h0 hc
  exact lop_ld_cells ho hT hx hm hn hk (decide_eq_true (by simp)) rfl hd
namespace P8
theorem lopC {C : Ctx} {o : Oper} {σ : St} {e : Eff} {ro : Nat → Bool} (h : LOp C o σ e ro := by
    first
      | (apply lop_mfb; (focus rfl); (focus rfl); (focus rfl))
      | (apply gLoad; (focus rfl); apply lop_ld_c3; (focus rfl); (focus exact inferInstance); (focus rfl); (focus rfl); (focus rfl); (focus rfl); (focus rfl); (focus rfl); (focus rfl); (focus rfl))
      | exact lopQ
      | fail) : LOp C o σ e ro := h
section steps
variable {C : Ctx} {ops : Array Oper} {o : Oper} {rest : List Oper} {K : St → Prop} {σ : St} {e : Eff} {ro : Nat → Bool} {W : List (Nat × Nat)} {i : Nat}
theorem rnC {d : Nat} (hk : RunN C ops rest K (e.app (some d) σ)) (hg : Guard ops σ o true := by first | exact gd_n rfl rfl | exact gd_t rfl rfl rfl rfl | exact gd_t rfl rfl rfl (by assumption)) (hd : o.dst = some d := by rfl) (h : LOp C o σ e ro := by exact lopC) : RunN C ops (o :: rest) K σ := rn_any hg hd h hk
theorem rkC {d : Nat} (hk : RunK C ops W (i + 1) rest K (e.app (some d) σ)) (hg : Guard ops σ o true := by first | exact gd_n rfl rfl | exact gd_t rfl rfl rfl rfl | exact gd_t rfl rfl rfl (by assumption)) (hd' : o.dst = some d := by rfl) (hd : dOk C o.dst = true := by rfl) (h : LOp C o σ e ro := by exact lopC)
    (hro : ∀ x, ro x = true → okObj ops W i x = true := by first | exact fun _ => ro_none | exact ro_one rfl | exact ro_one (by kernel_rfl) | exact ro_kIn (by decide)) (hob : ∀ p ∈ e.obj, (i, p.1) ∈ W := by first | exact ob_none | exact ob_one (by decide) | decide) : RunK C ops W i (o :: rest) K σ := rk_wr hg hd' hd h hro hob hk
end steps
end P8
open P8
theorem pointsNil_w : PCall Tryz.prog 44 [.p (.v (.pointer none))] (.p (.sl 2 (([] : List Dot).map pR) false)) := by
  refine pcall_of Tryz.func44 rfl (fun w0 F S0 M0 => ?_)
  as_aux_lemma =>
    repeat' (first
        | refine rnC ?_
        | refine rnSB ?_
        | refine rnG ?_
        | refine rnU ?_
        | ((fail_if_success (refine rnKn ?_)); refine rnP ?_ ?_ <;> (intro hq; try (have hq' := hq; simp only [hqs] at hq')))
        | refine rkC ?_
        | refine rkSB ?_
        | refine rkF ?_
        | refine rkU ?_
        | ((fail_if_success (refine rkKn ?_)); refine rkP ?_ ?_ <;> (intro hq; try (have hq' := hq; simp only [hqs] at hq')))
        | refine stp ?_
        | refine ifT ?_
        | refine ifF ?_
        | (refine ifQ ?_ ?_ <;> (try (intro hn)))
        | (refine ifB ?_ ?_ <;> (intro hq; try (have hq' := hq; simp only [hqs] at hq'))))
    exact rt1 rfl rfl (.one .nil) rfl
instance pointsNil_i : PC Tryz.prog 44 [.p (.v (.pointer none))] True (.p (.sl 2 (([] : List Dot).map pR) false)) := ⟨fun _ => pointsNil_w⟩
theorem points_o (q n v r : Nat) (hn : n ≤ 8) (hv : v ≤ 16) : OCall Tryz.prog 44 [.o (.ptr 1000 q 0)] (memL [(1000, (q + 1, some (ringM n v r)))]) (.p (.sl 2 ((pts n v).map pR) false)) (memL [(1000, (q + 1, some (ringM n v r)))]) := by
  refine ocall_of1 Tryz.func44 rfl (fun w0 F S0 M0 => ?_)
  refine aws_or (o := 1000) rfl fun d => ?_
  repeat' (first
      | refine rnC ?_
      | refine rnSB ?_
      | refine rnG ?_
      | refine rnU ?_
      | ((fail_if_success (refine rnKn ?_)); refine rnP ?_ ?_ <;> (intro hq; try (have hq' := hq; simp only [hqs] at hq')))
      | refine rkC ?_
      | refine rkSB ?_
      | refine rkF ?_
      | refine rkU ?_
      | ((fail_if_success (refine rkKn ?_)); refine rkP ?_ ?_ <;> (intro hq; try (have hq' := hq; simp only [hqs] at hq')))
      | refine stpR ?_
      | refine ifT ?_
      | refine ifF ?_
      | (refine ifQ ?_ ?_ <;> (try (intro hn)))
      | (refine ifB ?_ ?_ <;> (intro hq; try (have hq' := hq; simp only [hqs] at hq'))))
  refine aws_says (says_or (o := 1000) (ty := 71) (fun d => ringP d n v r) true rfl) ?_
  as_aux_lemma =>
    repeat' (first
        | refine rnC ?_
        | refine rnSB ?_
        | refine rnG ?_
        | refine rnU ?_
        | ((fail_if_success (refine rnKn ?_)); refine rnP ?_ ?_ <;> (intro hq; try (have hq' := hq; simp only [hqs] at hq')))
        | refine rkC ?_
        | refine rkSB ?_
        | refine rkF ?_
        | refine rkU ?_
        | ((fail_if_success (refine rkKn ?_)); refine rkP ?_ ?_ <;> (intro hq; try (have hq' := hq; simp only [hqs] at hq')))
        | refine stp ?_
        | refine ifT ?_
        | refine ifF ?_
        | (refine ifQ ?_ ?_ <;> (try (intro hn)))
        | (refine ifB ?_ ?_ <;> (intro hq; try (have hq' := hq; simp only [hqs] at hq'))))
    exact RetO.mk (ot1 rfl rfl finS_p rfl) ⟨.abs, trivial⟩
instance points_i {c g m n v r : Nat} : OC Tryz.prog 44 [.o (.ptr c g 0)] [(c, (m, some (ringM n v r)))] [] (m = g + 1 ∧ n ≤ 8 ∧ v ≤ 16) (.p (.sl 2 ((pts n v).map pR) false)) [(c, (m, some (ringM n v r)))] := ⟨fun h => by obtain ⟨rfl, h1, h2⟩ := h; exact (points_o g n v r h1 h2).one c⟩
theorem newM_o (n v r : Nat) (h : rRight n v r = true) : OCall Tryz.prog 7 [.a [.p (.i n), .p (.i v), .p (.i r)]] (fun _ => (0, none)) (.tup [.one (.ptr 9 0 0), .one (.p (.i 0))]) (memL [(9, (1, some (ringM n v r)))]) := by
  refine ocall_ofF 9 Tryz.func7 rfl (fun w0 F S0 M0 => ?_)
  have d1 : (!rRight n v r) = false := by rw [h]; rfl
  repeat' (first
      | refine rnC ?_
      | refine rnSB ?_
      | refine rnG ?_
      | refine rnU ?_
      | ((fail_if_success (refine rnKn ?_)); refine rnP ?_ ?_ <;> (intro hq; try (have hq' := hq; simp only [hqs] at hq')))
      | refine rkC ?_
      | refine rkSB ?_
      | refine rkF ?_
      | refine rkU ?_
      | ((fail_if_success (refine rkKn ?_)); refine rkP ?_ ?_ <;> (intro hq; try (have hq' := hq; simp only [hqs] at hq')))
      | refine stpR ?_
      | refine aws_draws [] mixed (by kernel_rfl) ?_
      | refine ifT ?_
      | refine ifF ?_
      | (refine ifQ ?_ ?_ <;> (try (intro hn)))
      | (refine ifB ?_ ?_ <;> (intro hq; try (have hq' := hq; simp only [hqs] at hq'))))
  refine aws_says (says_or (o := 9) (ty := 71) (fun d => ringP d n v r) false rfl) ?_
  as_aux_lemma =>
    repeat' (first
        | refine rnC ?_
        | refine rnSB ?_
        | refine rnG ?_
        | refine rnU ?_
        | ((fail_if_success (refine rnKn ?_)); refine rnP ?_ ?_ <;> (intro hq; try (have hq' := hq; simp only [hqs] at hq')))
        | refine rkC ?_
        | refine rkSB ?_
        | refine rkF ?_
        | refine rkU ?_
        | ((fail_if_success (refine rkKn ?_)); refine rkP ?_ ?_ <;> (intro hq; try (have hq' := hq; simp only [hqs] at hq')))
        | refine stp ?_
        | refine aws_draws [] mixed (by kernel_rfl) ?_
        | refine ifT ?_
        | refine ifF ?_
        | (refine ifQ ?_ ?_ <;> (try (intro hn)))
        | (refine ifB ?_ ?_ <;> (intro hq; try (have hq' := hq; simp only [hqs] at hq'))))
    exact RetO.mk (ot2 rfl rfl (.one (.kptr rfl)) rfl finS_p rfl) ⟨.abs, trivial⟩
instance newM_i {c k n v r : Nat} : OC Tryz.prog 7 [.a [.p (.i n), .p (.i v), .p (.i r)]] [] [(c, k)] (rRight n v r = true) (.tup [.one (.ptr c k 0), .one (.p (.i 0))]) [(c, (k + 1, some (ringM n v r)))] := ⟨fun h => (newM_o n v r h).fresh1 c k⟩
theorem config_o (q n v r : Nat) : OCall Tryz.prog 41 [.o (.ptr 1000 q 0)] (memL [(1000, (q + 1, some (ringM n v r)))]) (.a [.p (.i n), .p (.i v), .p (.i r)]) (memL [(1000, (q + 1, some (ringM n v r)))]) := by
  refine ocall_of1 Tryz.func41 rfl (fun w0 F S0 M0 => ?_)
  refine aws_or (o := 1000) rfl fun d => ?_
  repeat' (first
      | refine rnC ?_
      | refine rnSB ?_
      | refine rnG ?_
      | refine rnU ?_
      | ((fail_if_success (refine rnKn ?_)); refine rnP ?_ ?_ <;> (intro hq; try (have hq' := hq; simp only [hqs] at hq')))
      | refine rkC ?_
      | refine rkSB ?_
      | refine rkF ?_
      | refine rkU ?_
      | ((fail_if_success (refine rkKn ?_)); refine rkP ?_ ?_ <;> (intro hq; try (have hq' := hq; simp only [hqs] at hq')))
      | refine stpR ?_
      | refine ifT ?_
      | refine ifF ?_
      | (refine ifQ ?_ ?_ <;> (try (intro hn)))
      | (refine ifB ?_ ?_ <;> (intro hq; try (have hq' := hq; simp only [hqs] at hq'))))
  refine aws_says (says_or (o := 1000) (ty := 71) (fun d => ringP d n v r) d rfl) ?_
  as_aux_lemma =>
    repeat' (first
        | refine rnC ?_
        | refine rnSB ?_
        | refine rnG ?_
        | refine rnU ?_
        | ((fail_if_success (refine rnKn ?_)); refine rnP ?_ ?_ <;> (intro hq; try (have hq' := hq; simp only [hqs] at hq')))
        | refine rkC ?_
        | refine rkSB ?_
        | refine rkF ?_
        | refine rkU ?_
        | ((fail_if_success (refine rkKn ?_)); refine rkP ?_ ?_ <;> (intro hq; try (have hq' := hq; simp only [hqs] at hq')))
        | refine stp ?_
        | refine ifT ?_
        | refine ifF ?_
        | (refine ifQ ?_ ?_ <;> (try (intro hn)))
        | (refine ifB ?_ ?_ <;> (intro hq; try (have hq' := hq; simp only [hqs] at hq'))))
    exact RetO.mk (oc1 rfl rfl rfl rfl rfl rfl finL_p rfl) ⟨.abs, trivial⟩
instance config_i {c g m n v r : Nat} : OC Tryz.prog 41 [.o (.ptr c g 0)] [(c, (m, some (ringM n v r)))] [] (m = g + 1) (.a [.p (.i n), .p (.i v), .p (.i r)]) [(c, (m, some (ringM n v r)))] := ⟨fun h => by subst h; exact (config_o g n v r).one c⟩
theorem configNil_w : PCall Tryz.prog 41 [.p (.v (.pointer none))] (.a [.p (.i 0), .p (.i 0), .p (.i 0)]) := by
  refine pcall_of Tryz.func41 rfl (fun w0 F S0 M0 => ?_)
  as_aux_lemma =>
    repeat' (first
        | refine rnC ?_
        | refine rnSB ?_
        | refine rnG ?_
        | refine rnU ?_
        | ((fail_if_success (refine rnKn ?_)); refine rnP ?_ ?_ <;> (intro hq; try (have hq' := hq; simp only [hqs] at hq')))
        | refine rkC ?_
        | refine rkSB ?_
        | refine rkF ?_
        | refine rkU ?_
        | ((fail_if_success (refine rkKn ?_)); refine rkP ?_ ?_ <;> (intro hq; try (have hq' := hq; simp only [hqs] at hq')))
        | refine stp ?_
        | refine ifT ?_
        | refine ifF ?_
        | (refine ifQ ?_ ?_ <;> (try (intro hn)))
        | (refine ifB ?_ ?_ <;> (intro hq; try (have hq' := hq; simp only [hqs] at hq'))))
    exact rc1 rfl rfl rfl rfl rfl rfl finL_p rfl
instance configNil_i : PC Tryz.prog 41 [.p (.v (.pointer none))] True (.a [.p (.i 0), .p (.i 0), .p (.i 0)]) := ⟨fun _ => configNil_w⟩
end Go.Proofs.YthhlcdacmlnjdaaGreat.Rg
namespace Go.Proofs.YthhlcdacmlnjdaaGreat.Rg
open Go Go.RowKit Go.Aw Go.Aw.Cart Go.Aw.Ord Go.Sort Go.Proofs.YthhlcdacmlnjdaaGreat.Ca
set_option linter.unusedVariables false
set_option linter.unusedSimpArgs false
set_option maxRecDepth 8000
set_option maxHeartbeats 4000000
theorem ro_k1 {ops : Array Oper} {W : List (Nat × Nat)} {i c : Nat} {m : Nat × Option MO} (h : okObj ops W i c = true) : ∀ x, kIn [(c, m)] x = true → okObj ops W i x = true := fun x hx => by
  simp only [kIn, Bool.or_false] at hx
  rw [Nat.eq_of_beq_eq_true hx]; exact h
/-- a function's value that tells something of a point -/
class FPP (P : Program) (f : FuncId) (caps : List PVal) (pre : outParam Prop) (p : outParam (Dot → Bool)) : Prop where
  call : pre → ∀ e, PCall P f ([pV e] ++ caps.map .p) (.p (.b (p e)))
def idxP (p : Dot → Bool) (l : List Dot) (k : Nat) : Nat → Int
  | 0 => -1
  | n + 1 => if p (l.getD k default) = true then k else idxP p l (k + 1) n
theorem idxP_any {p : Dot → Bool} {l : List Dot} : ∀ (n k : Nat), k + n = l.length → decide (0 ≤ idxP p l k n) = (l.drop k).any p
  | 0, k, h => by rw [List.drop_eq_nil_of_le (by omega)]; rfl
  | n + 1, k, h => by
    have hk : k < l.length := by omega
    have e : l.drop k = l.getD k default :: l.drop (k + 1) := by
      rw [List.getD_eq_getElem?_getD, List.getElem?_eq_getElem hk]; exact List.drop_eq_getElem_cons hk
    rw [idxP, e, List.any_cons, ← idxP_any n (k + 1) (by omega)]
    by_cases hp : p (l.getD k default) = true
    · rw [if_pos hp, hp]; exact decide_eq_true (by omega)
    · rw [if_neg hp, Bool.eq_false_iff.2 hp, Bool.false_or]
namespace M9
theorem lopC {C : Ctx} {o : Oper} {σ : St} {e : Eff} {ro : Nat → Bool} (h : LOp C o σ e ro := by
    first
      | (apply lop_callv1; (focus rfl); (focus rfl); (focus assumption); (focus first | exact lk_o rfl | exact lk_a rfl); (focus exact inferInstance); (focus exact inferInstance); (focus exact True.intro); (focus rfl))
      | (apply gLoad; (focus rfl); apply lop_ld_atn; (focus rfl); (focus exact inferInstance); (focus rfl); (focus rfl); (focus decide); (focus rfl); (focus repeat' (first | exact All2.nil | (apply All2.cons; (focus rfl)))); (focus rfl))
      | exact lopV
      | fail) : LOp C o σ e ro := h
section steps
variable {C : Ctx} {ops : Array Oper} {o : Oper} {rest : List Oper} {K : St → Prop} {σ : St} {e : Eff} {ro : Nat → Bool} {W : List (Nat × Nat)} {i : Nat}
theorem rnC {d : Nat} (hk : RunN C ops rest K (e.app (some d) σ)) (hg : Guard ops σ o true := by first | exact gd_n rfl rfl | exact gd_t rfl rfl rfl rfl | exact gd_t rfl rfl rfl (by assumption)) (hd : o.dst = some d := by rfl) (h : LOp C o σ e ro := by exact lopC) : RunN C ops (o :: rest) K σ := rn_any hg hd h hk
theorem rkC {d : Nat} (hk : RunK C ops W (i + 1) rest K (e.app (some d) σ)) (hg : Guard ops σ o true := by first | exact gd_n rfl rfl | exact gd_t rfl rfl rfl rfl | exact gd_t rfl rfl rfl (by assumption)) (hd' : o.dst = some d := by rfl) (hd : dOk C o.dst = true := by rfl) (h : LOp C o σ e ro := by exact lopC)
    (hro : ∀ x, ro x = true → okObj ops W i x = true := by first | exact fun _ => ro_none | exact ro_one rfl | exact ro_k1 rfl | exact ro_one (by kernel_rfl) | exact ro_k1 (by kernel_rfl) | exact ro_kIn (by decide)) (hob : ∀ p ∈ e.obj, (i, p.1) ∈ W := by first | exact ob_none | exact ob_one (by decide) | decide) : RunK C ops W i (o :: rest) K σ := rk_wr hg hd' hd h hro hob hk
end steps
end M9
section
open M9
theorem indexFuncP_w (f : FuncId) (caps : List PVal) (hf : FnT Tryz.prog f) (p : Dot → Bool) (l : List Dot) (ex : Bool) (h : l.length ≤ 1000000000) (hp : ∀ e, PCall Tryz.prog f ([pV e] ++ caps.map .p) (.p (.b (p e)))) : PCall Tryz.prog 45 [.p (.sl 2 (l.map pR) ex), .p (.fnv f caps)] (.p (.i (idxP p l 0 l.length))) := by
  refine pcall_of Tryz.func45 rfl (fun w0 F S0 M0 => ?_)
  haveI : ∀ e, PC Tryz.prog f ([pV e] ++ caps.map .p) True (.p (.b (p e))) := fun e => ⟨fun _ => hp e⟩
  obtain ⟨A, hA⟩ : ∃ A, A = idxP p l 0 l.length := ⟨_, rfl⟩
  rw [← hA]
  repeat' (first
      | refine rnC ?_
      | refine rnSB ?_
      | refine rnG ?_
      | refine rnU ?_
      | ((fail_if_success (refine rnKn ?_)); refine rnP ?_ ?_ <;> (intro hq; try (have hq' := hq; simp only [hqs] at hq')))
      | refine rkC ?_
      | refine rkSB ?_
      | refine rkF ?_
      | refine rkU ?_
      | ((fail_if_success (refine rkKn ?_)); refine rkP ?_ ?_ <;> (intro hq; try (have hq' := hq; simp only [hqs] at hq')))
      | refine stp ?_
      | refine ifT ?_
      | refine ifF ?_
      | (refine ifQ ?_ ?_ <;> (try (intro hn)))
      | (refine ifB ?_ ?_ <;> (intro hq; try (have hq' := hq; simp only [hqs] at hq'))))
  refine aws_loopS [4, 5, 8, 9, 10, 11, 12, 13, 14, 15, 16, 17, 18] [] (fun (i : Nat) => [(8, .p (.i i))]) (fun _ => []) (fun i => i ≤ l.length ∧ A = idxP p l i (l.length - i)) (fun i => l.length - i) 0 ⟨Nat.zero_le _, hA⟩ (by exact knA) (by exact knA) ?_
  rintro i β γ ⟨hi, hx⟩
  by_cases hil : i < l.length
  · have hlt : decide ((i : Int) < l.length) = true := decide_eq_true (by omega)
    rw [show l.length - i = (l.length - (i + 1)) + 1 by omega, idxP] at hx
    cases hv : p (l.getD (i : Int).toNat default) with
    | true =>
      have hv' := hv
      rw [Int.toNat_natCast] at hv'
      rw [if_pos hv'] at hx
      rw [hx]
      as_aux_lemma =>
        repeat' (first
            | refine rnC ?_
            | refine rnSB ?_
            | refine rnG ?_
            | refine rnU ?_
            | ((fail_if_success (refine rnKn ?_)); refine rnP ?_ ?_ <;> (intro hq; try (have hq' := hq; simp only [hqs] at hq')))
            | refine rkC ?_
            | refine rkSB ?_
            | refine rkF ?_
            | refine rkU ?_
            | ((fail_if_success (refine rkKn ?_)); refine rkP ?_ ?_ <;> (intro hq; try (have hq' := hq; simp only [hqs] at hq')))
            | refine stp ?_
            | refine ifT ?_
            | refine ifF ?_
            | (refine ifQ ?_ ?_ <;> (try (intro hn)))
            | (refine ifB ?_ ?_ <;> (intro hq; try (have hq' := hq; simp only [hqs] at hq'))))
        exact rt1 rfl rfl finS_p rfl
    | false =>
      have hv' := hv
      rw [Int.toNat_natCast] at hv'
      rw [if_neg (by rw [hv']; simp)] at hx
      as_aux_lemma =>
        repeat' (first
            | refine rnC ?_
            | refine rnSB ?_
            | refine rnG ?_
            | refine rnU ?_
            | ((fail_if_success (refine rnKn ?_)); refine rnP ?_ ?_ <;> (intro hq; try (have hq' := hq; simp only [hqs] at hq')))
            | refine rkC ?_
            | refine rkSB ?_
            | refine rkF ?_
            | refine rkU ?_
            | ((fail_if_success (refine rkKn ?_)); refine rkP ?_ ?_ <;> (intro hq; try (have hq' := hq; simp only [hqs] at hq')))
            | refine stp ?_
            | refine ifT ?_
            | refine ifF ?_
            | (refine ifQ ?_ ?_ <;> (try (intro hn)))
            | (refine ifB ?_ ?_ <;> (intro hq; try (have hq' := hq; simp only [hqs] at hq'))))
        exact ⟨i + 1, _, by omega, ⟨by omega, hx⟩, .refl, by exact frA⟩
  · have hlt : decide ((i : Int) < l.length) = false := decide_eq_false (by omega)
    rw [show l.length - i = 0 by omega, idxP] at hx
    rw [hx]
    as_aux_lemma =>
      repeat' (first
          | refine rnC ?_
          | refine rnSB ?_
          | refine rnG ?_
          | refine rnU ?_
          | ((fail_if_success (refine rnKn ?_)); refine rnP ?_ ?_ <;> (intro hq; try (have hq' := hq; simp only [hqs] at hq')))
          | refine rkC ?_
          | refine rkSB ?_
          | refine rkF ?_
          | refine rkU ?_
          | ((fail_if_success (refine rkKn ?_)); refine rkP ?_ ?_ <;> (intro hq; try (have hq' := hq; simp only [hqs] at hq')))
          | refine stp ?_
          | refine ifT ?_
          | refine ifF ?_
          | (refine ifQ ?_ ?_ <;> (try (intro hn)))
          | (refine ifB ?_ ?_ <;> (intro hq; try (have hq' := hq; simp only [hqs] at hq'))))
      exact rt1 rfl rfl finS_p rfl
instance indexFuncP_i {f : FuncId} {caps : List PVal} {pre : Prop} {p : Dot → Bool} {l : List Dot} {ex : Bool} [hf : FnT Tryz.prog f] [hp : FPP Tryz.prog f caps pre p] : PC Tryz.prog 45 [.p (.sl 2 (l.map pR) ex), .p (.fnv f caps)] (pre ∧ l.length ≤ 1000000000) (.p (.i (idxP p l 0 l.length))) := ⟨fun h => indexFuncP_w f caps hf p l ex h.2 (hp.call h.1)⟩
end
theorem growP_c (n : Int) (h : 0 ≤ n ∧ n ≤ 1000000000000) : OCall Tryz.prog 56 [.p (.v (.slice none 0 0)), .p (.i n)] (fun _ => (0, none)) (.o (.osl 22 0 2 0 0)) (memL [(22, (1, some (.buf 85 2 [])))]) := by
  refine ocall_ofF 22 Tryz.func56 rfl (fun w0 F S0 M0 => ?_)
  repeat' (first
      | refine rnA ?_
      | refine rnS ?_
      | refine rnG ?_
      | refine rnU ?_
      | ((fail_if_success (refine rnKn ?_)); refine rnP ?_ ?_ <;> (intro hq; try (have hq' := hq; simp only [hqs] at hq')))
      | refine rkA ?_
      | refine rkS ?_
      | refine rkF ?_
      | refine rkU ?_
      | ((fail_if_success (refine rkKn ?_)); refine rkP ?_ ?_ <;> (intro hq; try (have hq' := hq; simp only [hqs] at hq')))
      | refine stp ?_
      | refine ifT ?_
      | refine ifF ?_
      | (refine ifQ ?_ ?_ <;> (try (intro hn)))
      | (refine ifB ?_ ?_ <;> (intro hq; try (have hq' := hq; simp only [hqs] at hq'))))
  · exfalso; omega
  · refine rn_any (gd_n rfl rfl) rfl (lop_cap_nil rfl rfl rfl) ?_
    repeat' (first
        | refine rnA ?_
        | refine rnS ?_
        | refine rnG ?_
        | refine rnU ?_
        | ((fail_if_success (refine rnKn ?_)); refine rnP ?_ ?_ <;> (intro hq; try (have hq' := hq; simp only [hqs] at hq')))
        | refine rkA ?_
        | refine rkS ?_
        | refine rkF ?_
        | refine rkU ?_
        | ((fail_if_success (refine rkKn ?_)); refine rkP ?_ ?_ <;> (intro hq; try (have hq' := hq; simp only [hqs] at hq')))
        | refine stp ?_
        | refine ifT ?_
        | refine ifF ?_
        | fail)
    refine ifB ?_ ?_ <;> (intro hq; simp only [hqs] at hq)
    · repeat' (first
    | refine rnA ?_
    | refine rnS ?_
    | refine rnG ?_
    | refine rnU ?_
    | ((fail_if_success (refine rnKn ?_)); refine rnP ?_ ?_ <;> (intro hq; try (have hq' := hq; simp only [hqs] at hq')))
    | refine rkA ?_
    | refine rkS ?_
    | refine rkF ?_
    | refine rkU ?_
    | ((fail_if_success (refine rkKn ?_)); refine rkP ?_ ?_ <;> (intro hq; try (have hq' := hq; simp only [hqs] at hq')))
    | refine stp ?_
    | refine ifT ?_
    | refine ifF ?_
    | (refine ifQ ?_ ?_ <;> (try (intro hn)))
    | (refine ifB ?_ ?_ <;> (intro hq; try (have hq' := hq; simp only [hqs] at hq'))))
      refine rn_any (gd_n rfl rfl) rfl (lop_cap_nil rfl rfl rfl) ?_
      refine rn_any (gd_n rfl rfl) rfl (lop_sl_n0 rfl rfl rfl rfl) ?_
      repeat' (first
          | refine rnA ?_
          | refine rnS ?_
          | refine rnG ?_
          | refine rnU ?_
          | ((fail_if_success (refine rnKn ?_)); refine rnP ?_ ?_ <;> (intro hq; try (have hq' := hq; simp only [hqs] at hq')))
          | refine rkA ?_
          | refine rkS ?_
          | refine rkF ?_
          | refine rkU ?_
          | ((fail_if_success (refine rkKn ?_)); refine rkP ?_ ?_ <;> (intro hq; try (have hq' := hq; simp only [hqs] at hq')))
          | refine stp ?_
          | refine ifT ?_
          | refine ifF ?_
          | (refine ifQ ?_ ?_ <;> (try (intro hn)))
          | (refine ifB ?_ ?_ <;> (intro hq; try (have hq' := hq; simp only [hqs] at hq'))))
      refine rn_any (gd_n rfl rfl) rfl (lop_ap_z (m := n.toNat) rfl rfl rfl rfl (by omega) rfl (by decide) rfl (by omega) (by simp only [maxLen]; omega) (by omega) rfl) ?_
      repeat' (first
          | refine rnA ?_
          | refine rnS ?_
          | refine rnG ?_
          | refine rnU ?_
          | ((fail_if_success (refine rnKn ?_)); refine rnP ?_ ?_ <;> (intro hq; try (have hq' := hq; simp only [hqs] at hq')))
          | refine rkA ?_
          | refine rkS ?_
          | refine rkF ?_
          | refine rkU ?_
          | ((fail_if_success (refine rkKn ?_)); refine rkP ?_ ?_ <;> (intro hq; try (have hq' := hq; simp only [hqs] at hq')))
          | refine stp ?_
          | refine ifT ?_
          | refine ifF ?_
          | (refine ifQ ?_ ?_ <;> (try (intro hn)))
          | (refine ifB ?_ ?_ <;> (intro hq; try (have hq' := hq; simp only [hqs] at hq'))))
      refine rn_any (gd_n rfl rfl) rfl (lop_sl_oh rfl rfl rfl (by omega) (by omega) rfl) ?_
      as_aux_lemma =>
        repeat' (first
            | refine rnA ?_
            | refine rnS ?_
            | refine rnG ?_
            | refine rnU ?_
            | ((fail_if_success (refine rnKn ?_)); refine rnP ?_ ?_ <;> (intro hq; try (have hq' := hq; simp only [hqs] at hq')))
            | refine rkA ?_
            | refine rkS ?_
            | refine rkF ?_
            | refine rkU ?_
            | ((fail_if_success (refine rkKn ?_)); refine rkP ?_ ?_ <;> (intro hq; try (have hq' := hq; simp only [hqs] at hq')))
            | refine stp ?_
            | refine ifT ?_
            | refine ifF ?_
            | (refine ifQ ?_ ?_ <;> (try (intro hn)))
            | (refine ifB ?_ ?_ <;> (intro hq; try (have hq' := hq; simp only [hqs] at hq'))))
        exact RetO.mk (ot1 rfl rfl (.one (.kosl rfl)) rfl) ⟨.buf, trivial⟩
    · refine aws_says (says_nil (t := 0) (o := 22) (ty := 85) (es := 2) rfl rfl (by decide)) ?_
      as_aux_lemma =>
        repeat' (first
            | refine rnA ?_
            | refine rnS ?_
            | refine rnG ?_
            | refine rnU ?_
            | ((fail_if_success (refine rnKn ?_)); refine rnP ?_ ?_ <;> (intro hq; try (have hq' := hq; simp only [hqs] at hq')))
            | refine rkA ?_
            | refine rkS ?_
            | refine rkF ?_
            | refine rkU ?_
            | ((fail_if_success (refine rkKn ?_)); refine rkP ?_ ?_ <;> (intro hq; try (have hq' := hq; simp only [hqs] at hq')))
            | refine stp ?_
            | refine ifT ?_
            | refine ifF ?_
            | (refine ifQ ?_ ?_ <;> (try (intro hn)))
            | (refine ifB ?_ ?_ <;> (intro hq; try (have hq' := hq; simp only [hqs] at hq'))))
        exact RetO.mk (ot1 rfl rfl (.one (.kosl rfl)) rfl) ⟨.buf, trivial⟩
instance growP_i {c k : Nat} {n : Int} : OC Tryz.prog 56 [.p (.v (.slice none 0 0)), .p (.i n)] [] [(c, k)] (0 ≤ n ∧ n ≤ 1000000000000) (.o (.osl c k 2 0 0)) [(c, (k + 1, some (.buf 85 2 [])))] := ⟨fun h => (growP_c n h).fresh1 c k⟩

/-- texts, one behind the other -/
abbrev pieceP (p : List Dot × Bool) : List PVal := [PVal.sl 2 (p.1.map pR) p.2]
abbrev piecesP (ls : List (List Dot × Bool)) (ex : Bool) : AV := .p (.sl 1 (ls.map pieceP) ex)
def flatP (ls : List (List Dot × Bool)) (i : Nat) : List Dot := (ls.take i).flatMap (·.1)
theorem flatP_succ (ls : List (List Dot × Bool)) {i : Nat} (h : i < ls.length) : flatP ls (i + 1) = flatP ls i ++ (ls.getD i default).1 := by
  unfold flatP
  rw [List.take_succ_eq_append_getElem h, List.flatMap_append]
  simp [List.getD_eq_getElem?_getD, h]
theorem flatP_all (ls : List (List Dot × Bool)) : flatP ls ls.length = ls.flatMap (·.1) := by unfold flatP; rw [List.take_length]
theorem flatP_le (ls : List (List Dot × Bool)) (i : Nat) : (flatP ls i).length ≤ (ls.flatMap (·.1)).length := by
  conv => rhs; rw [← List.take_append_drop i ls, List.flatMap_append, List.length_append]
  exact Nat.le_add_right _ _

theorem concatP_c (ls : List (List Dot × Bool)) (ex : Bool) (h : (ls.flatMap (·.1)).length ≤ 1000000000 ∧ ls.length ≤ 1000000000) :
    OCall Tryz.prog 47 [piecesP ls ex] (fun _ => (0, none)) (.o (.osl 24 ls.length 2 0 (ls.flatMap (·.1)).length)) (memL [(24, (ls.length + 1, some (.buf 85 2 ((ls.flatMap (·.1)).map pR))))]) := by
  refine ocall_ofF 24 Tryz.func47 rfl (fun w0 F S0 M0 => ?_)
  obtain ⟨hf, hl⟩ := h
  repeat' (first
      | refine rnA ?_
      | refine rnS ?_
      | refine rnG ?_
      | refine rnU ?_
      | ((fail_if_success (refine rnKn ?_)); refine rnP ?_ ?_ <;> (intro hq; try (have hq' := hq; simp only [hqs] at hq')))
      | refine rkA ?_
      | refine rkS ?_
      | refine rkF ?_
      | refine rkU ?_
      | ((fail_if_success (refine rkKn ?_)); refine rkP ?_ ?_ <;> (intro hq; try (have hq' := hq; simp only [hqs] at hq')))
      | refine stp ?_
      | refine ifT ?_
      | refine ifF ?_
      | (refine ifQ ?_ ?_ <;> (try (intro hn)))
      | (refine ifB ?_ ?_ <;> (intro hq; try (have hq' := hq; simp only [hqs] at hq'))))
  refine aws_loopS [3, 5, 11, 12, 13, 14, 15, 16, 17, 18, 19, 20, 21, 22] [] (fun (x : Nat × Int) => [(11, .p (.i x.1)), (3, .p (.i x.2))]) (fun x => [])
    (fun x => x.1 ≤ ls.length ∧ x.2 = ((flatP ls x.1).length : Int)) (fun x => ls.length - x.1) (0, 0) ⟨Nat.zero_le _, rfl⟩ (by exact knA) (by exact knA) ?_
  rintro ⟨i, n⟩ β γ ⟨hi, hn⟩
  simp only at hi hn
  have hfl := flatP_le ls i
  have hfs : i < ls.length → (flatP ls i).length + (ls.getD (i : Int).toNat default).1.length ≤ 1000000000 := fun hlt => by
    have h1 := flatP_le ls (i + 1)
    rw [flatP_succ ls hlt, List.length_append] at h1
    rw [Int.toNat_natCast]
    omega
  dsimp only
  repeat' (first
      | refine rnA ?_
      | refine rnS ?_
      | refine rnG ?_
      | refine rnU ?_
      | ((fail_if_success (refine rnKn ?_)); refine rnP ?_ ?_ <;> (intro hq; try (have hq' := hq; simp only [hqs] at hq')))
      | refine rkA ?_
      | refine rkS ?_
      | refine rkF ?_
      | refine rkU ?_
      | ((fail_if_success (refine rkKn ?_)); refine rkP ?_ ?_ <;> (intro hq; try (have hq' := hq; simp only [hqs] at hq')))
      | refine stp ?_
      | refine ifT ?_
      | refine ifF ?_
      | (refine ifQ ?_ ?_ <;> (try (intro hn)))
      | (refine ifB ?_ ?_ <;> (intro hq; try (have hq' := hq; simp only [hqs] at hq'))))
  · exfalso; omega
  · apply ex2 (i + 1)
    apply Exists.intro
    refine ⟨?_, ⟨?_, ?_⟩, .refl, ?_⟩
    rotate_left 3
    (focus exact frA)
    · dsimp only; omega
    · dsimp only; omega
    · dsimp only
      rw [flatP_succ ls (by omega), List.length_append, hn, Int.toNat_natCast]
      omega
  · have hil : i = ls.length := by omega
    refine aws_loopS (6 :: [6, 8, 27, 28, 29, 30, 31, 32, 33, 34]) [24] (fun (x : Nat × List Dot) => [(27, .p (.i x.1)), (6, .o (.osl 24 x.1 2 0 x.2.length))]) (fun x => [(24, (x.1 + 1, some (.buf 85 2 (x.2.map pR))))])
      (fun x => x.1 ≤ ls.length ∧ x.2 = flatP ls x.1) (fun x => ls.length - x.1) (0, []) ⟨Nat.zero_le _, rfl⟩ (by exact knA) (by exact knA) ?_
    rintro ⟨k, fs⟩ β' γ' ⟨hk, hfk⟩
    simp only at hk hfk
    have hfl' := flatP_le ls k
    have hfs' : k < ls.length → fs.length + (ls.getD (k : Int).toNat default).1.length ≤ 1000000000 := fun hlt => by
      have h1 := flatP_le ls (k + 1)
      rw [flatP_succ ls hlt, List.length_append] at h1
      rw [Int.toNat_natCast, hfk]
      omega
    dsimp only
    as_aux_lemma =>
      repeat' (first
          | refine rnA ?_
          | refine rnS ?_
          | refine rnG ?_
          | refine rnU ?_
          | ((fail_if_success (refine rnKn ?_)); refine rnP ?_ ?_ <;> (intro hq; try (have hq' := hq; simp only [hqs] at hq')))
          | refine rkA ?_
          | refine rkS ?_
          | refine rkF ?_
          | refine rkU ?_
          | ((fail_if_success (refine rkKn ?_)); refine rkP ?_ ?_ <;> (intro hq; try (have hq' := hq; simp only [hqs] at hq')))
          | refine stp ?_
          | refine ifT ?_
          | refine ifF ?_
          | (refine ifQ ?_ ?_ <;> (try (intro hn)))
          | (refine ifB ?_ ?_ <;> (intro hq; try (have hq' := hq; simp only [hqs] at hq'))))
      · apply ex2 (k + 1)
        apply Exists.intro
        refine ⟨?_, ⟨?_, ?_⟩, .refl, ?_⟩
        rotate_left 3
        (focus exact frA)
        · dsimp only; omega
        · dsimp only; omega
        · dsimp only
          rw [flatP_succ ls (by omega), hfk, Int.toNat_natCast]
      · have hkl : k = ls.length := by omega
        have hfa : fs = ls.flatMap (·.1) := by rw [hfk, hkl, flatP_all]
        subst hfa hkl
        exact RetO.mk (ot1 rfl rfl (.one (.kosl rfl)) rfl) ⟨.buf, trivial⟩
instance concatP_i {c k : Nat} {ls : List (List Dot × Bool)} {ex : Bool} : OC Tryz.prog 47 [piecesP ls ex] [] [(c, k)] ((ls.flatMap (·.1)).length ≤ 1000000000 ∧ ls.length ≤ 1000000000)
    (.o (.osl c (k + ls.length) 1 0 (ls.flatMap (·.1)).length)) [(c, (k + (ls.length + 1), some (.buf 85 2 ((ls.flatMap (·.1)).map pR))))] := ⟨fun h => (concatP_c ls ex h).fresh1 c k⟩
def idxFrom (l : List Int) (v : Int) (k : Nat) : Nat → Int
  | 0 => -1
  | n + 1 => if v = l.getD k default then k else idxFrom l v (k + 1) n
theorem idx_mem {l : List Int} {v : Int} : ∀ (n k : Nat), k + n = l.length → (0 ≤ idxFrom l v k n ↔ v ∈ l.drop k)
  | 0, k, h => by rw [List.drop_eq_nil_of_le (by omega)]; simp [idxFrom]
  | n + 1, k, h => by
    have hk : k < l.length := by omega
    have e : l.drop k = l.getD k default :: l.drop (k + 1) := by
      rw [List.getD_eq_getElem?_getD, List.getElem?_eq_getElem hk]; exact List.drop_eq_getElem_cons hk
    rw [idxFrom, e, List.mem_cons, ← idx_mem n (k + 1) (by omega)]
    by_cases hv : v = l.getD k default
    · rw [if_pos hv]; exact ⟨fun _ => .inl hv, fun _ => by omega⟩
    · rw [if_neg hv]; exact ⟨.inr, fun q => q.resolve_left hv⟩
theorem index_w (l : List Int) (ex : Bool) (v : Int) (h : l.length ≤ 1000) : PCall Tryz.prog 51 [ints l ex, .p (.i v)] (.p (.i (idxFrom l v 0 l.length))) := by
  refine pcall_of Tryz.func51 rfl (fun w0 F S0 M0 => ?_)
  repeat' (first
      | refine rnB ?_
      | refine rnSB ?_
      | refine rnG ?_
      | refine rnU ?_
      | ((fail_if_success (refine rnKn ?_)); refine rnP ?_ ?_ <;> (intro hq; try (have hq' := hq; simp only [hqs] at hq')))
      | refine rkB ?_
      | refine rkSB ?_
      | refine rkF ?_
      | refine rkU ?_
      | ((fail_if_success (refine rkKn ?_)); refine rkP ?_ ?_ <;> (intro hq; try (have hq' := hq; simp only [hqs] at hq')))
      | refine stp ?_
      | refine ifT ?_
      | refine ifF ?_
      | (refine ifQ ?_ ?_ <;> (try (intro hn)))
      | (refine ifB ?_ ?_ <;> (intro hq; try (have hq' := hq; simp only [hqs] at hq'))))
  refine aws_loopS [4, 5, 8, 9, 10, 11, 12, 13, 14, 15, 16, 17, 18] [] (fun (i : Nat) => [(8, .p (.i i))]) (fun _ => []) (fun i => i ≤ l.length ∧ idxFrom l v 0 l.length = idxFrom l v i (l.length - i)) (fun i => l.length - i) 0 ⟨Nat.zero_le _, rfl⟩ (by exact knA) (by exact knA) ?_
  rintro i β γ ⟨hi, hx⟩
  by_cases hil : i < l.length
  · have hlt : decide ((i : Int) < l.length) = true := decide_eq_true (by omega)
    rw [show l.length - i = (l.length - (i + 1)) + 1 by omega, idxFrom] at hx
    by_cases hv : v = l.getD (i : Int).toNat default
    · have hd : decide (v = l.getD (i : Int).toNat default) = true := decide_eq_true hv
      rw [Int.toNat_natCast] at hv
      rw [if_pos hv] at hx
      rw [hx]
      as_aux_lemma =>
        repeat' (first
            | refine rnB ?_
            | refine rnSB ?_
            | refine rnG ?_
            | refine rnU ?_
            | ((fail_if_success (refine rnKn ?_)); refine rnP ?_ ?_ <;> (intro hq; try (have hq' := hq; simp only [hqs] at hq')))
            | refine rkB ?_
            | refine rkSB ?_
            | refine rkF ?_
            | refine rkU ?_
            | ((fail_if_success (refine rkKn ?_)); refine rkP ?_ ?_ <;> (intro hq; try (have hq' := hq; simp only [hqs] at hq')))
            | refine stp ?_
            | refine ifT ?_
            | refine ifF ?_
            | (refine ifQ ?_ ?_ <;> (try (intro hn)))
            | (refine ifB ?_ ?_ <;> (intro hq; try (have hq' := hq; simp only [hqs] at hq'))))
        exact rt1 rfl rfl finS_p rfl
    · have hd : decide (v = l.getD (i : Int).toNat default) = false := decide_eq_false hv
      rw [Int.toNat_natCast] at hv
      rw [if_neg hv] at hx
      as_aux_lemma =>
        repeat' (first
            | refine rnB ?_
            | refine rnSB ?_
            | refine rnG ?_
            | refine rnU ?_
            | ((fail_if_success (refine rnKn ?_)); refine rnP ?_ ?_ <;> (intro hq; try (have hq' := hq; simp only [hqs] at hq')))
            | refine rkB ?_
            | refine rkSB ?_
            | refine rkF ?_
            | refine rkU ?_
            | ((fail_if_success (refine rkKn ?_)); refine rkP ?_ ?_ <;> (intro hq; try (have hq' := hq; simp only [hqs] at hq')))
            | refine stp ?_
            | refine ifT ?_
            | refine ifF ?_
            | (refine ifQ ?_ ?_ <;> (try (intro hn)))
            | (refine ifB ?_ ?_ <;> (intro hq; try (have hq' := hq; simp only [hqs] at hq'))))
        exact ⟨i + 1, _, by omega, ⟨by omega, hx⟩, .refl, by exact frA⟩
  · have hlt : decide ((i : Int) < l.length) = false := decide_eq_false (by omega)
    rw [show l.length - i = 0 by omega, idxFrom] at hx
    rw [hx]
    as_aux_lemma =>
      repeat' (first
          | refine rnB ?_
          | refine rnSB ?_
          | refine rnG ?_
          | refine rnU ?_
          | ((fail_if_success (refine rnKn ?_)); refine rnP ?_ ?_ <;> (intro hq; try (have hq' := hq; simp only [hqs] at hq')))
          | refine rkB ?_
          | refine rkSB ?_
          | refine rkF ?_
          | refine rkU ?_
          | ((fail_if_success (refine rkKn ?_)); refine rkP ?_ ?_ <;> (intro hq; try (have hq' := hq; simp only [hqs] at hq')))
          | refine stp ?_
          | refine ifT ?_
          | refine ifF ?_
          | (refine ifQ ?_ ?_ <;> (try (intro hn)))
          | (refine ifB ?_ ?_ <;> (intro hq; try (have hq' := hq; simp only [hqs] at hq'))))
      exact rt1 rfl rfl finS_p rfl
instance indexI_i {l : List Int} {ex : Bool} {v : Int} : PC Tryz.prog 51 [ints l ex, .p (.i v)] (l.length ≤ 1000) (.p (.i (idxFrom l v 0 l.length))) := ⟨index_w l ex v⟩
theorem contains_w (l : List Int) (ex : Bool) (v : Int) (h : l.length ≤ 1000) : PCall Tryz.prog 34 [ints l ex, .p (.i v)] (.p (.b (decide (v ∈ l)))) := by
  refine pcall_of Tryz.func34 rfl (fun w0 F S0 M0 => ?_)
  as_aux_lemma =>
    repeat' (first
        | refine rnB ?_
        | refine rnSB ?_
        | refine rnG ?_
        | refine rnU ?_
        | ((fail_if_success (refine rnKn ?_)); refine rnP ?_ ?_ <;> (intro hq; try (have hq' := hq; simp only [hqs] at hq')))
        | refine rkB ?_
        | refine rkSB ?_
        | refine rkF ?_
        | refine rkU ?_
        | ((fail_if_success (refine rkKn ?_)); refine rkP ?_ ?_ <;> (intro hq; try (have hq' := hq; simp only [hqs] at hq')))
        | refine stp ?_
        | refine ifT ?_
        | refine ifF ?_
        | (refine ifQ ?_ ?_ <;> (try (intro hn)))
        | (refine ifB ?_ ?_ <;> (intro hq; try (have hq' := hq; simp only [hqs] at hq'))))
    refine rt1 rfl rfl finS_p (rb ?_)
    exact decide_eq_decide.2 ((idx_mem (l := l) (v := v) l.length 0 (by omega)).trans (by rw [List.drop_zero])).symm
instance containsI_i {l : List Int} {ex : Bool} {v : Int} : PC Tryz.prog 34 [ints l ex, .p (.i v)] (l.length ≤ 1000) (.p (.b (decide (v ∈ l)))) := ⟨contains_w l ex v⟩
end Go.Proofs.YthhlcdacmlnjdaaGreat.Rg
namespace Go.Proofs.YthhlcdacmlnjdaaGreat.Rg
open Go Go.RowKit Go.Aw Go.Aw.Cart Go.Aw.Ord Go.Sort Go.Proofs.YthhlcdacmlnjdaaGreat.Ca
set_option linter.unusedVariables false
set_option linter.unusedSimpArgs false
set_option maxRecDepth 8000
set_option maxHeartbeats 4000000
namespace W4
theorem lopC {C : Ctx} {o : Oper} {σ : St} {e : Eff} {ro : Nat → Bool} (h : LOp C o σ e ro := by
    first
      | exact lop_wshl' rfl rfl rfl rfl (by decide) (by decide) rfl rfl
      | exact lopQ
      | fail) : LOp C o σ e ro := h
section steps
variable {C : Ctx} {ops : Array Oper} {o : Oper} {rest : List Oper} {K : St → Prop} {σ : St} {e : Eff} {ro : Nat → Bool} {W : List (Nat × Nat)} {i : Nat}
theorem rnC {d : Nat} (hk : RunN C ops rest K (e.app (some d) σ)) (hg : Guard ops σ o true := by first | exact gd_n rfl rfl | exact gd_t rfl rfl rfl rfl | exact gd_t rfl rfl rfl (by assumption)) (hd : o.dst = some d := by rfl) (h : LOp C o σ e ro := by exact lopC) : RunN C ops (o :: rest) K σ := rn_any hg hd h hk
theorem rkC {d : Nat} (hk : RunK C ops W (i + 1) rest K (e.app (some d) σ)) (hg : Guard ops σ o true := by first | exact gd_n rfl rfl | exact gd_t rfl rfl rfl rfl | exact gd_t rfl rfl rfl (by assumption)) (hd' : o.dst = some d := by rfl) (hd : dOk C o.dst = true := by rfl) (h : LOp C o σ e ro := by exact lopC)
    (hro : ∀ x, ro x = true → okObj ops W i x = true := by first | exact fun _ => ro_none | exact ro_one rfl | exact ro_one (by kernel_rfl) | exact ro_kIn (by decide)) (hob : ∀ p ∈ e.obj, (i, p.1) ∈ W := by first | exact ob_none | exact ob_one (by decide) | decide) : RunK C ops W i (o :: rest) K σ := rk_wr hg hd' hd h hro hob hk
end steps
end W4
open W4
theorem base_w (p : Int) : PCall Tryz.prog 43 [.p (.i p)] (.tup [.one (.p (.k .u64 (if 0 ≤ p ∧ p < 8 then 2305843009213693952 * p else 0))), .one (.p (.i (if 0 ≤ p ∧ p < 8 then 0 else 1)))]) := by
  refine pcall_of Tryz.func43 rfl (fun w0 F S0 M0 => ?_)
  by_cases h0 : p < 0
  · have d1 : decide (p < 0) = true := decide_eq_true h0
    rw [if_neg (by omega), if_neg (by omega)]
    as_aux_lemma =>
      repeat' (first
          | refine rnC ?_
          | refine rnSB ?_
          | refine rnG ?_
          | refine rnU ?_
          | ((fail_if_success (refine rnKn ?_)); refine rnP ?_ ?_ <;> (intro hq; try (have hq' := hq; simp only [hqs] at hq')))
          | refine rkC ?_
          | refine rkSB ?_
          | refine rkF ?_
          | refine rkU ?_
          | ((fail_if_success (refine rkKn ?_)); refine rkP ?_ ?_ <;> (intro hq; try (have hq' := hq; simp only [hqs] at hq')))
          | refine stp ?_
          | refine ifT ?_
          | refine ifF ?_
          | (refine ifQ ?_ ?_ <;> (try (intro hn)))
          | (refine ifB ?_ ?_ <;> (intro hq; try (have hq' := hq; simp only [hqs] at hq'))))
      exact rt2 rfl rfl finS_p rfl finS_p rfl
  · have d1 : decide (p < 0) = false := decide_eq_false h0
    by_cases h8 : 8 ≤ p
    · have d2 : decide (8 ≤ p) = true := decide_eq_true h8
      rw [if_neg (by omega), if_neg (by omega)]
      as_aux_lemma =>
        repeat' (first
            | refine rnC ?_
            | refine rnSB ?_
            | refine rnG ?_
            | refine rnU ?_
            | ((fail_if_success (refine rnKn ?_)); refine rnP ?_ ?_ <;> (intro hq; try (have hq' := hq; simp only [hqs] at hq')))
            | refine rkC ?_
            | refine rkSB ?_
            | refine rkF ?_
            | refine rkU ?_
            | ((fail_if_success (refine rkKn ?_)); refine rkP ?_ ?_ <;> (intro hq; try (have hq' := hq; simp only [hqs] at hq')))
            | refine stp ?_
            | refine ifT ?_
            | refine ifF ?_
            | (refine ifQ ?_ ?_ <;> (try (intro hn)))
            | (refine ifB ?_ ?_ <;> (intro hq; try (have hq' := hq; simp only [hqs] at hq'))))
        exact rt2 rfl rfl finS_p rfl finS_p rfl
    · have d2 : decide (8 ≤ p) = false := decide_eq_false h8
      rw [if_pos (by omega), if_pos (by omega)]
      obtain ⟨q, rfl⟩ : ∃ q : Nat, p = q := ⟨p.toNat, by omega⟩
      have e : (2305843009213693952 : Int) * (q : Int) = (((q * 2 ^ (61 : Int).toNat) % md .u64 : Nat) : Int) := by
        have h1 : q * 2 ^ (61 : Int).toNat = q * 2305843009213693952 := rfl
        have h2 : md .u64 = 18446744073709551616 := rfl
        rw [h1, h2]; omega
      rw [e]
      as_aux_lemma =>
        repeat' (first
            | refine rnC ?_
            | refine rnSB ?_
            | refine rnG ?_
            | refine rnU ?_
            | ((fail_if_success (refine rnKn ?_)); refine rnP ?_ ?_ <;> (intro hq; try (have hq' := hq; simp only [hqs] at hq')))
            | refine rkC ?_
            | refine rkSB ?_
            | refine rkF ?_
            | refine rkU ?_
            | ((fail_if_success (refine rkKn ?_)); refine rkP ?_ ?_ <;> (intro hq; try (have hq' := hq; simp only [hqs] at hq')))
            | refine stp ?_
            | refine ifT ?_
            | refine ifF ?_
            | (refine ifQ ?_ ?_ <;> (try (intro hn)))
            | (refine ifB ?_ ?_ <;> (intro hq; try (have hq' := hq; simp only [hqs] at hq'))))
        exact rt2 rfl rfl finS_p rfl finS_p rfl
instance base_i {p : Int} : PC Tryz.prog 43 [.p (.i p)] True (.tup [.one (.p (.k .u64 (if 0 ≤ p ∧ p < 8 then 2305843009213693952 * p else 0))), .one (.p (.i (if 0 ≤ p ∧ p < 8 then 0 else 1)))]) := ⟨fun _ => base_w p⟩
end Go.Proofs.YthhlcdacmlnjdaaGreat.Rg
namespace Go.Proofs.YthhlcdacmlnjdaaGreat.Rg
open Go Go.RowKit Go.Aw Go.Aw.Cart Go.Aw.Ord Go.Sort Go.Proofs.YthhlcdacmlnjdaaGreat.Ca
set_option linter.unusedVariables false
set_option linter.unusedSimpArgs false
set_option maxRecDepth 8000
set_option maxHeartbeats 4000000
open W2
theorem take_step {r : Nat} (V : List Int) (y : Int) : (dl (V ++ [y])).take r = if ((dl V).take r).length < r ∧ y ∉ (dl V).take r then (dl V).take r ++ [y] else (dl V).take r := by
  rw [dl_snoc]
  by_cases hl : ((dl V).take r).length < r
  · have hlen := hl
    rw [List.length_take] at hlen
    by_cases hx : y ∈ dl V
    · rw [if_pos hx, if_neg (show ¬ (((dl V).take r).length < r ∧ y ∉ (dl V).take r) from fun q => q.2 ((take_in hl).2 hx))]
    · have e1 : (dl V).take r = dl V := List.take_of_length_le (by omega)
      have e2 : (dl V ++ [y]).take r = dl V ++ [y] := List.take_of_length_le (by rw [List.length_append, List.length_singleton]; omega)
      rw [if_neg hx, if_pos (show ((dl V).take r).length < r ∧ y ∉ (dl V).take r from ⟨hl, fun q => hx ((take_in hl).1 q)⟩), e1, e2]
  · rw [if_neg (show ¬ (((dl V).take r).length < r ∧ y ∉ (dl V).take r) from fun q => hl q.1)]
    rw [List.length_take] at hl
    split
    · rfl
    · exact (List.take_append_of_le_length (l₁ := dl V) (by omega))
def geF (B : Int) (p : Dot) : Bool := decide (B ≤ p.1)
theorem snocG {B : Int} {L : List Dot} {i : Nat} (hi : i < L.length) : ((L.take (i + 1)).filter (geF B)).map (·.2) = ((L.take i).filter (geF B)).map (·.2) ++ (if B ≤ (L.getD i default).1 then [(L.getD i default).2] else []) := by
  rw [take_get' hi, List.filter_append, List.map_append]
  congr 1
  by_cases h : B ≤ (L.getD i default).1
  · rw [if_pos h, List.filter_cons_of_pos (show geF B (L.getD i default) = true from decide_eq_true h)]; rfl
  · rw [if_neg h, List.filter_cons_of_neg (show ¬ geF B (L.getD i default) = true by unfold geF; rw [decide_eq_false h]; simp)]; rfl
theorem mapD1 {L : List Dot} {i : Nat} (h : i < L.length) : (L.map (·.1)).getD i default = (L.getD i default).1 := by
  rw [getD_at (by rw [List.length_map]; exact h), getD_at h, List.getElem_map]
theorem mapD2 {L : List Dot} {i : Nat} (h : i < L.length) : (L.map (·.2)).getD i default = (L.getD i default).2 := by
  rw [getD_at (by rw [List.length_map]; exact h), getD_at h, List.getElem_map]
theorem refList_w (L : List Dot) (ex ey : Bool) (r : Nat) (p : Int) (hL : L.length ≤ 1000000) (hr : r ≤ 1000000) (hp : 0 ≤ p ∧ p < 8) : PCall Tryz.prog 52 [.p (.sl 1 ((L.map (·.1)).map uR) ex), .p (.sl 1 ((L.map (·.2)).map iR) ey), .p (.i r), .p (.i p)] (.p (.sl 1 ((listF L r (2305843009213693952 * p)).map iR) false)) := by
  refine pcall_of Tryz.func52 rfl (fun w0 F S0 M0 => ?_)
  obtain ⟨B, hB⟩ : ∃ B, B = 2305843009213693952 * p := ⟨_, rfl⟩
  obtain ⟨P, hP⟩ : ∃ P, P = L.map (·.1) := ⟨_, rfl⟩
  obtain ⟨O, hO⟩ : ∃ O, O = L.map (·.2) := ⟨_, rfl⟩
  have pl : P.length = L.length := by rw [hP, List.length_map]
  have ol : O.length = L.length := by rw [hO, List.length_map]
  have pg : ∀ i : Nat, i < L.length → P.getD i default = (L.getD i default).1 := fun i hi => by rw [hP]; exact mapD1 hi
  have og : ∀ i : Nat, i < L.length → O.getD i default = (L.getD i default).2 := fun i hi => by rw [hO]; exact mapD2 hi
  rw [← hP, ← hO, ← hB]
  have lf : listF L r B = (dl ((L.filter (geF B) ++ L).map (·.2))).take r := by
    unfold listF; rw [← ref_list]; rfl
  rw [lf]
  clear hP hO
  repeat' (first
      | refine rnC ?_
      | refine rnSB ?_
      | refine rnG ?_
      | refine rnU ?_
      | ((fail_if_success (refine rnKn ?_)); refine rnP ?_ ?_ <;> (intro hq; try (have hq' := hq; simp only [hqs] at hq')))
      | refine rkC ?_
      | refine rkSB ?_
      | refine rkF ?_
      | refine rkU ?_
      | ((fail_if_success (refine rkKn ?_)); refine rkP ?_ ?_ <;> (intro hq; try (have hq' := hq; simp only [hqs] at hq')))
      | refine stp ?_
      | refine ifT ?_
      | refine ifF ?_
      | (refine ifQ ?_ ?_ <;> (try (intro hn)))
      | (refine ifB ?_ ?_ <;> (intro hq; try (have hq' := hq; simp only [hqs] at hq'))))
  rw [← hB]
  refine aws_says (says_nil (t := 10) (o := 901) (ty := 3) (es := 1) rfl rfl (by decide)) ?_
  refine aws_loopS [10, 11, 12, 16, 17, 18, 19, 20, 21, 22, 23, 24, 25, 26, 27, 28, 29, 30, 31, 32, 33, 34, 35, 36, 37, 38, 39, 40, 41, 42, 43, 44, 45, 46, 47, 48, 49, 50, 51, 52, 53, 54, 55, 56] [901] (fun (x : Nat × Nat × List Int) => [(11, .p (.i x.1)), (10, .o (.osl 901 x.2.1 1 0 x.2.2.length))]) (fun x => [(901, (x.2.1 + 1, some (.buf 3 1 (x.2.2.map iR))))])
    (fun x => x.1 ≤ 2 ∧ x.2.2 = if x.1 = 0 then [] else if x.1 = 1 then (dl ((L.filter (geF B)).map (·.2))).take r else (dl ((L.filter (geF B) ++ L).map (·.2))).take r) (fun x => 2 - x.1) (0, 0, []) ⟨by decide, rfl⟩ (by exact knA) (by exact knA) ?_
  rintro ⟨t, g, m⟩ β γ ⟨ht, hm⟩
  simp only at ht hm
  dsimp only
  rcases (show t = 0 ∨ t = 1 ∨ t = 2 by omega) with rfl | rfl | rfl
  · rw [if_pos rfl] at hm
    subst hm
    repeat' (first
        | refine rnC ?_
        | refine rnSB ?_
        | refine rnG ?_
        | refine rnU ?_
        | ((fail_if_success (refine rnKn ?_)); refine rnP ?_ ?_ <;> (intro hq; try (have hq' := hq; simp only [hqs] at hq')))
        | refine rkC ?_
        | refine rkSB ?_
        | refine rkF ?_
        | refine rkU ?_
        | ((fail_if_success (refine rkKn ?_)); refine rkP ?_ ?_ <;> (intro hq; try (have hq' := hq; simp only [hqs] at hq')))
        | refine stp ?_
        | refine ifT ?_
        | refine ifF ?_
        | (refine ifQ ?_ ?_ <;> (try (intro hn)))
        | (refine ifB ?_ ?_ <;> (intro hq; try (have hq' := hq; simp only [hqs] at hq'))))
    refine aws_loopS [10, 12, 20, 21, 22, 23, 24, 25, 26, 27, 28, 29, 30, 31, 32, 33, 34, 35, 36, 37, 38, 39, 40, 41, 42, 43, 44, 45, 46, 47, 48, 49, 50, 51, 52, 53, 54, 55, 56] [901] (fun (x : Nat × Nat × List Int) => [(12, .p (.i x.1)), (10, .o (.osl 901 x.2.1 1 0 x.2.2.length))]) (fun x => [(901, (x.2.1 + 1, some (.buf 3 1 (x.2.2.map iR))))])
      (fun x => x.1 ≤ L.length ∧ x.2.2 = (dl (((L.take x.1).filter (geF B)).map (·.2))).take r) (fun x => L.length - x.1) (0, g, []) ⟨Nat.zero_le _, by dsimp only; rw [List.take_zero]; exact (List.take_nil (i := r)).symm⟩ (by exact knA) (by exact knA) ?_
    rintro ⟨i, g, m⟩ β γ ⟨hi, hm⟩
    simp only at hi hm
    have hml : m.length ≤ r := by rw [hm, List.length_take]; omega
    dsimp only
    by_cases hil : i < L.length
    · have d1 : decide ((i : Int) < (P.length : Int)) = true := decide_eq_true (by omega)
      have ei : (i : Int).toNat = i := Int.toNat_natCast i
      have hst := congrArg dl (snocG (B := B) hil)
      by_cases hb : P.getD (i : Int).toNat default < B
      · have d2 : decide (P.getD (i : Int).toNat default < B) = true := decide_eq_true hb
        rw [ei, pg i hil] at hb
        rw [if_neg (show ¬ B ≤ (L.getD i default).1 by omega), List.append_nil] at hst
        as_aux_lemma =>
          repeat' (first
              | refine rnC ?_
              | refine rnSB ?_
              | refine rnG ?_
              | refine rnU ?_
              | ((fail_if_success (refine rnKn ?_)); refine rnP ?_ ?_ <;> (intro hq; try (have hq' := hq; simp only [hqs] at hq')))
              | refine rkC ?_
              | refine rkSB ?_
              | refine rkF ?_
              | refine rkU ?_
              | ((fail_if_success (refine rkKn ?_)); refine rkP ?_ ?_ <;> (intro hq; try (have hq' := hq; simp only [hqs] at hq')))
              | refine stp ?_
              | refine ifT ?_
              | refine ifF ?_
              | (refine ifQ ?_ ?_ <;> (try (intro hn)))
              | (refine ifB ?_ ?_ <;> (intro hq; try (have hq' := hq; simp only [hqs] at hq'))))
          exact ⟨(i + 1, g, m), _, by dsimp only; omega, ⟨by dsimp only; omega, by dsimp only; rw [hst]; exact hm⟩, .refl, by exact frA⟩
      · have d2 : decide (P.getD (i : Int).toNat default < B) = false := decide_eq_false hb
        rw [ei, pg i hil] at hb
        rw [if_pos (show B ≤ (L.getD i default).1 by omega)] at hst
        have hst2 := congrArg (List.take r) hst
        rw [take_step, ← hm] at hst2
        by_cases hr1 : (r : Int) ≤ (m.length : Int)
        · have d3 : decide ((r : Int) ≤ (m.length : Int)) = true := decide_eq_true hr1
          rw [if_neg (show ¬ (m.length < r ∧ (L.getD i default).2 ∉ m) from fun q => by omega)] at hst2
          as_aux_lemma =>
            repeat' (first
                | refine rnC ?_
                | refine rnSB ?_
                | refine rnG ?_
                | refine rnU ?_
                | ((fail_if_success (refine rnKn ?_)); refine rnP ?_ ?_ <;> (intro hq; try (have hq' := hq; simp only [hqs] at hq')))
                | refine rkC ?_
                | refine rkSB ?_
                | refine rkF ?_
                | refine rkU ?_
                | ((fail_if_success (refine rkKn ?_)); refine rkP ?_ ?_ <;> (intro hq; try (have hq' := hq; simp only [hqs] at hq')))
                | refine stp ?_
                | refine ifT ?_
                | refine ifF ?_
                | (refine ifQ ?_ ?_ <;> (try (intro hn)))
                | (refine ifB ?_ ?_ <;> (intro hq; try (have hq' := hq; simp only [hqs] at hq'))))
            exact ⟨(i + 1, g, m), _, by dsimp only; omega, ⟨by dsimp only; omega, hst2.symm⟩, .refl, by exact frA⟩
        · have d3 : decide ((r : Int) ≤ (m.length : Int)) = false := decide_eq_false hr1
          by_cases hx : O.getD (i : Int).toNat default ∈ m
          · have d4 : decide (O.getD (i : Int).toNat default ∈ m) = true := decide_eq_true hx
            rw [ei, og i hil] at hx
            rw [if_neg (show ¬ (m.length < r ∧ (L.getD i default).2 ∉ m) from fun q => q.2 hx)] at hst2
            as_aux_lemma =>
              repeat' (first
                  | refine rnC ?_
                  | refine rnSB ?_
                  | refine rnG ?_
                  | refine rnU ?_
                  | ((fail_if_success (refine rnKn ?_)); refine rnP ?_ ?_ <;> (intro hq; try (have hq' := hq; simp only [hqs] at hq')))
                  | refine rkC ?_
                  | refine rkSB ?_
                  | refine rkF ?_
                  | refine rkU ?_
                  | ((fail_if_success (refine rkKn ?_)); refine rkP ?_ ?_ <;> (intro hq; try (have hq' := hq; simp only [hqs] at hq')))
                  | refine stp ?_
                  | refine ifT ?_
                  | refine ifF ?_
                  | (refine ifQ ?_ ?_ <;> (try (intro hn)))
                  | (refine ifB ?_ ?_ <;> (intro hq; try (have hq' := hq; simp only [hqs] at hq'))))
              exact ⟨(i + 1, g, m), _, by dsimp only; omega, ⟨by dsimp only; omega, hst2.symm⟩, .refl, by exact frA⟩
          · have d4 : decide (O.getD (i : Int).toNat default ∈ m) = false := decide_eq_false hx
            rw [ei, og i hil] at hx
            rw [if_pos (show m.length < r ∧ (L.getD i default).2 ∉ m from ⟨by omega, hx⟩), ← og i hil] at hst2
            as_aux_lemma =>
              repeat' (first
                  | refine rnC ?_
                  | refine rnSB ?_
                  | refine rnG ?_
                  | refine rnU ?_
                  | ((fail_if_success (refine rnKn ?_)); refine rnP ?_ ?_ <;> (intro hq; try (have hq' := hq; simp only [hqs] at hq')))
                  | refine rkC ?_
                  | refine rkSB ?_
                  | refine rkF ?_
                  | refine rkU ?_
                  | ((fail_if_success (refine rkKn ?_)); refine rkP ?_ ?_ <;> (intro hq; try (have hq' := hq; simp only [hqs] at hq')))
                  | refine stp ?_
                  | refine ifT ?_
                  | refine ifF ?_
                  | (refine ifQ ?_ ?_ <;> (try (intro hn)))
                  | (refine ifB ?_ ?_ <;> (intro hq; try (have hq' := hq; simp only [hqs] at hq'))))
              refine ⟨(i + 1, g + 1, m ++ [O.getD (i : Int).toNat default]), _, by dsimp only; omega, ⟨by dsimp only; omega, ?_⟩, .refl, by exact frA⟩
              dsimp only
              rw [hst2, ei]
    · have d1 : decide ((i : Int) < (P.length : Int)) = false := decide_eq_false (by omega)
      rw [show L.take i = L from List.take_of_length_le (by omega)] at hm
      as_aux_lemma =>
        repeat' (first
            | refine rnC ?_
            | refine rnSB ?_
            | refine rnG ?_
            | refine rnU ?_
            | ((fail_if_success (refine rnKn ?_)); refine rnP ?_ ?_ <;> (intro hq; try (have hq' := hq; simp only [hqs] at hq')))
            | refine rkC ?_
            | refine rkSB ?_
            | refine rkF ?_
            | refine rkU ?_
            | ((fail_if_success (refine rkKn ?_)); refine rkP ?_ ?_ <;> (intro hq; try (have hq' := hq; simp only [hqs] at hq')))
            | refine stp ?_
            | refine ifT ?_
            | refine ifF ?_
            | (refine ifQ ?_ ?_ <;> (try (intro hn)))
            | (refine ifB ?_ ?_ <;> (intro hq; try (have hq' := hq; simp only [hqs] at hq'))))
        exact ⟨(1, g, m), _, by dsimp only; omega, ⟨by dsimp only; omega, by dsimp only; rw [if_neg (by decide), if_pos rfl]; exact hm⟩, .refl, by exact frA⟩
  · rw [if_neg (by decide), if_pos rfl] at hm
    repeat' (first
        | refine rnC ?_
        | refine rnSB ?_
        | refine rnG ?_
        | refine rnU ?_
        | ((fail_if_success (refine rnKn ?_)); refine rnP ?_ ?_ <;> (intro hq; try (have hq' := hq; simp only [hqs] at hq')))
        | refine rkC ?_
        | refine rkSB ?_
        | refine rkF ?_
        | refine rkU ?_
        | ((fail_if_success (refine rkKn ?_)); refine rkP ?_ ?_ <;> (intro hq; try (have hq' := hq; simp only [hqs] at hq')))
        | refine stp ?_
        | refine ifT ?_
        | refine ifF ?_
        | (refine ifQ ?_ ?_ <;> (try (intro hn)))
        | (refine ifB ?_ ?_ <;> (intro hq; try (have hq' := hq; simp only [hqs] at hq'))))
    refine aws_loopS [10, 12, 20, 21, 22, 23, 24, 25, 26, 27, 28, 29, 30, 31, 32, 33, 34, 35, 36, 37, 38, 39, 40, 41, 42, 43, 44, 45, 46, 47, 48, 49, 50, 51, 52, 53, 54, 55, 56] [901] (fun (x : Nat × Nat × List Int) => [(12, .p (.i x.1)), (10, .o (.osl 901 x.2.1 1 0 x.2.2.length))]) (fun x => [(901, (x.2.1 + 1, some (.buf 3 1 (x.2.2.map iR))))])
      (fun x => x.1 ≤ L.length ∧ x.2.2 = (dl ((L.filter (geF B) ++ L.take x.1).map (·.2))).take r) (fun x => L.length - x.1) (0, g, m) ⟨Nat.zero_le _, by dsimp only; rw [List.take_zero, List.append_nil]; exact hm⟩ (by exact knA) (by exact knA) ?_
    clear hm
    rintro ⟨i, g, m⟩ β γ ⟨hi, hm⟩
    simp only at hi hm
    have hml : m.length ≤ r := by rw [hm, List.length_take]; omega
    dsimp only
    by_cases hil : i < L.length
    · have d1 : decide ((i : Int) < (P.length : Int)) = true := decide_eq_true (by omega)
      have ei : (i : Int).toNat = i := Int.toNat_natCast i
      have hst2 := take_step (r := r) ((L.filter (geF B) ++ L.take i).map (·.2)) (L.getD i default).2
      rw [show (L.filter (geF B) ++ L.take i).map (·.2) ++ [(L.getD i default).2] = (L.filter (geF B) ++ L.take (i + 1)).map (·.2) by rw [take_get' hil, ← List.append_assoc, List.map_append (l₂ := [L.getD i default]), List.map_singleton], ← hm] at hst2
      by_cases hr1 : (r : Int) ≤ (m.length : Int)
      · have d3 : decide ((r : Int) ≤ (m.length : Int)) = true := decide_eq_true hr1
        rw [if_neg (show ¬ (m.length < r ∧ (L.getD i default).2 ∉ m) from fun q => by omega)] at hst2
        as_aux_lemma =>
          repeat' (first
              | refine rnC ?_
              | refine rnSB ?_
              | refine rnG ?_
              | refine rnU ?_
              | ((fail_if_success (refine rnKn ?_)); refine rnP ?_ ?_ <;> (intro hq; try (have hq' := hq; simp only [hqs] at hq')))
              | refine rkC ?_
              | refine rkSB ?_
              | refine rkF ?_
              | refine rkU ?_
              | ((fail_if_success (refine rkKn ?_)); refine rkP ?_ ?_ <;> (intro hq; try (have hq' := hq; simp only [hqs] at hq')))
              | refine stp ?_
              | refine ifT ?_
              | refine ifF ?_
              | (refine ifQ ?_ ?_ <;> (try (intro hn)))
              | (refine ifB ?_ ?_ <;> (intro hq; try (have hq' := hq; simp only [hqs] at hq'))))
          exact ⟨(i + 1, g, m), _, by dsimp only; omega, ⟨by dsimp only; omega, hst2.symm⟩, .refl, by exact frA⟩
      · have d3 : decide ((r : Int) ≤ (m.length : Int)) = false := decide_eq_false hr1
        by_cases hx : O.getD (i : Int).toNat default ∈ m
        · have d4 : decide (O.getD (i : Int).toNat default ∈ m) = true := decide_eq_true hx
          rw [ei, og i hil] at hx
          rw [if_neg (show ¬ (m.length < r ∧ (L.getD i default).2 ∉ m) from fun q => q.2 hx)] at hst2
          as_aux_lemma =>
            repeat' (first
                | refine rnC ?_
                | refine rnSB ?_
                | refine rnG ?_
                | refine rnU ?_
                | ((fail_if_success (refine rnKn ?_)); refine rnP ?_ ?_ <;> (intro hq; try (have hq' := hq; simp only [hqs] at hq')))
                | refine rkC ?_
                | refine rkSB ?_
                | refine rkF ?_
                | refine rkU ?_
                | ((fail_if_success (refine rkKn ?_)); refine rkP ?_ ?_ <;> (intro hq; try (have hq' := hq; simp only [hqs] at hq')))
                | refine stp ?_
                | refine ifT ?_
                | refine ifF ?_
                | (refine ifQ ?_ ?_ <;> (try (intro hn)))
                | (refine ifB ?_ ?_ <;> (intro hq; try (have hq' := hq; simp only [hqs] at hq'))))
            exact ⟨(i + 1, g, m), _, by dsimp only; omega, ⟨by dsimp only; omega, hst2.symm⟩, .refl, by exact frA⟩
        · have d4 : decide (O.getD (i : Int).toNat default ∈ m) = false := decide_eq_false hx
          rw [ei, og i hil] at hx
          rw [if_pos (show m.length < r ∧ (L.getD i default).2 ∉ m from ⟨by omega, hx⟩), ← og i hil] at hst2
          as_aux_lemma =>
            repeat' (first
                | refine rnC ?_
                | refine rnSB ?_
                | refine rnG ?_
                | refine rnU ?_
                | ((fail_if_success (refine rnKn ?_)); refine rnP ?_ ?_ <;> (intro hq; try (have hq' := hq; simp only [hqs] at hq')))
                | refine rkC ?_
                | refine rkSB ?_
                | refine rkF ?_
                | refine rkU ?_
                | ((fail_if_success (refine rkKn ?_)); refine rkP ?_ ?_ <;> (intro hq; try (have hq' := hq; simp only [hqs] at hq')))
                | refine stp ?_
                | refine ifT ?_
                | refine ifF ?_
                | (refine ifQ ?_ ?_ <;> (try (intro hn)))
                | (refine ifB ?_ ?_ <;> (intro hq; try (have hq' := hq; simp only [hqs] at hq'))))
            refine ⟨(i + 1, g + 1, m ++ [O.getD (i : Int).toNat default]), _, by dsimp only; omega, ⟨by dsimp only; omega, ?_⟩, .refl, by exact frA⟩
            dsimp only
            rw [hst2, ei]
    · have d1 : decide ((i : Int) < (P.length : Int)) = false := decide_eq_false (by omega)
      rw [show L.take i = L from List.take_of_length_le (by omega)] at hm
      as_aux_lemma =>
        repeat' (first
            | refine rnC ?_
            | refine rnSB ?_
            | refine rnG ?_
            | refine rnU ?_
            | ((fail_if_success (refine rnKn ?_)); refine rnP ?_ ?_ <;> (intro hq; try (have hq' := hq; simp only [hqs] at hq')))
            | refine rkC ?_
            | refine rkSB ?_
            | refine rkF ?_
            | refine rkU ?_
            | ((fail_if_success (refine rkKn ?_)); refine rkP ?_ ?_ <;> (intro hq; try (have hq' := hq; simp only [hqs] at hq')))
            | refine stp ?_
            | refine ifT ?_
            | refine ifF ?_
            | (refine ifQ ?_ ?_ <;> (try (intro hn)))
            | (refine ifB ?_ ?_ <;> (intro hq; try (have hq' := hq; simp only [hqs] at hq'))))
        exact ⟨(2, g, m), _, by dsimp only; omega, ⟨by dsimp only; omega, by dsimp only; rw [if_neg (by decide), if_neg (by decide)]; exact hm⟩, .refl, by exact frA⟩
  · rw [if_neg (by decide), if_neg (by decide)] at hm
    rw [← hm]
    as_aux_lemma =>
      repeat' (first
          | refine rnC ?_
          | refine rnSB ?_
          | refine rnG ?_
          | refine rnU ?_
          | ((fail_if_success (refine rnKn ?_)); refine rnP ?_ ?_ <;> (intro hq; try (have hq' := hq; simp only [hqs] at hq')))
          | refine rkC ?_
          | refine rkSB ?_
          | refine rkF ?_
          | refine rkU ?_
          | ((fail_if_success (refine rkKn ?_)); refine rkP ?_ ?_ <;> (intro hq; try (have hq' := hq; simp only [hqs] at hq')))
          | refine stp ?_
          | refine ifT ?_
          | refine ifF ?_
          | (refine ifQ ?_ ?_ <;> (try (intro hn)))
          | (refine ifB ?_ ?_ <;> (intro hq; try (have hq' := hq; simp only [hqs] at hq'))))
      exact rt1 rfl rfl (.one (finC_map rfl rfl rfl rfl)) rfl
instance refList_i {L : List Dot} {ex ey : Bool} {r : Nat} {p : Int} : PC Tryz.prog 52 [.p (.sl 1 ((L.map (·.1)).map uR) ex), .p (.sl 1 ((L.map (·.2)).map iR) ey), .p (.i r), .p (.i p)] (L.length ≤ 1000000 ∧ r ≤ 1000000 ∧ 0 ≤ p ∧ p < 8) (.p (.sl 1 ((listF L r (2305843009213693952 * p)).map iR) false)) := ⟨fun h => refList_w L ex ey r p h.1 h.2.1 h.2.2⟩
end Go.Proofs.YthhlcdacmlnjdaaGreat.Rg
namespace Go.Proofs.YthhlcdacmlnjdaaGreat.Rg
open Go Go.RowKit Go.Aw Go.Aw.Cart Go.Aw.Ord Go.Sort Go.Proofs.YthhlcdacmlnjdaaGreat.Ca
set_option linter.unusedVariables false
set_option linter.unusedSimpArgs false
set_option maxRecDepth 8000
set_option maxHeartbeats 4000000
theorem idxP_found {p : Dot → Bool} {l : List Dot} : ∀ (n k : Nat), k + n = l.length → (idxP p l k n = -1 ∧ ∀ i, k ≤ i → i < l.length → p (l.getD i default) = false) ∨ ∃ i0 : Nat, idxP p l k n = i0 ∧ k ≤ i0 ∧ i0 < l.length ∧ p (l.getD i0 default) = true ∧ ∀ i, k ≤ i → i < i0 → p (l.getD i default) = false
  | 0, k, h => .inl ⟨rfl, fun i h1 h2 => by omega⟩
  | n + 1, k, h => by
    rw [idxP]
    by_cases hp : p (l.getD k default) = true
    · rw [if_pos hp]; exact .inr ⟨k, rfl, Nat.le_refl _, by omega, hp, fun i h1 h2 => by omega⟩
    · rw [if_neg hp]
      have hp' := Bool.eq_false_iff.2 hp
      rcases idxP_found (p := p) (l := l) n (k + 1) (by omega) with ⟨h1, h2⟩ | ⟨i0, h1, h2, h3, h4, h5⟩
      · refine .inl ⟨h1, fun i k1 k2 => ?_⟩
        by_cases e : i = k
        · rw [e]; exact hp'
        · exact h2 i (by omega) k2
      · refine .inr ⟨i0, h1, by omega, h3, h4, fun i k1 k2 => ?_⟩
        by_cases e : i = k
        · rw [e]; exact hp'
        · exact h5 i (by omega) k2
theorem filter_none {α : Type} {p : α → Bool} {l : List α} (h : ∀ x ∈ l, p x = false) : l.filter p = [] := List.filter_eq_nil_iff.2 fun x hx => by rw [h x hx]; simp
theorem filter_every {α : Type} {p : α → Bool} {l : List α} (h : ∀ x ∈ l, p x = true) : l.filter p = l := List.filter_eq_self.2 h
/-- from the first point at the base or behind it on, and round -/
theorem rot_is {L : List Dot} {B : Int} (hu : upI ltD L) : ∃ i : Nat, i ≤ L.length ∧ (idxP (geF B) L 0 L.length = -1 ∧ i = 0 ∨ idxP (geF B) L 0 L.length = i) ∧ L.drop i ++ L.take i = rotF B L := by
  have e : rotF B L = L.filter (geF B) ++ L.filter fun p => !geF B p := rfl
  rcases idxP_found (p := geF B) (l := L) L.length 0 (by omega) with ⟨h1, h2⟩ | ⟨i0, h1, h2, h3, h4, h5⟩
  · have hn : ∀ x ∈ L, geF B x = false := fun x hx => by
      obtain ⟨j, hj, q⟩ := getD_mem hx
      rw [← q]; exact h2 j (Nat.zero_le _) hj
    refine ⟨0, Nat.zero_le _, .inl ⟨h1, rfl⟩, ?_⟩
    rw [e, filter_none hn, filter_every (fun x hx => by rw [hn x hx]; rfl), List.drop_zero, List.take_zero, List.append_nil, List.nil_append]
  · refine ⟨i0, by omega, .inr h1, ?_⟩
    have ht : ∀ x ∈ L.take i0, geF B x = false := fun x hx => by
      obtain ⟨j, hj, rfl⟩ := List.mem_take_iff_getElem.1 hx
      have := h5 j (Nat.zero_le _) (by omega)
      rwa [getD_at (by omega)] at this
    have hd : ∀ x ∈ L.drop i0, geF B x = true := fun x hx => by
      obtain ⟨j, hj, rfl⟩ := List.mem_drop_iff_getElem.1 hx
      by_cases hj0 : j = 0
      · subst hj0; rw [getD_at h3] at h4; simpa using h4
      · have hp := List.pairwise_iff_getElem.1 hu i0 (i0 + j) h3 (by omega) (by omega)
        unfold geF at h4 ⊢
        have h4' := of_decide_eq_true h4
        rw [getD_at h3] at h4'
        unfold ltD at hp
        exact decide_eq_true (by omega)
    have hL : L = L.take i0 ++ L.drop i0 := (List.take_append_drop _ _).symm
    rw [e]
    conv => rhs; rw [hL, List.filter_append, List.filter_append]
    rw [filter_none ht, filter_every hd, filter_every (fun x hx => by rw [ht x hx]; rfl), filter_none (fun x hx => by rw [hd x hx]; rfl), List.nil_append, List.append_nil]
namespace PA
theorem lopC {C : Ctx} {o : Oper} {σ : St} {e : Eff} {ro : Nat → Bool} (h : LOp C o σ e ro := by
    first
      | (apply gCallF; (focus rfl); first
          | (apply lop_lend2; (focus rfl); (focus exact inferInstance); (focus rfl); (focus rfl); (focus rfl); (focus exact (List.length_map ..).symm); (focus first | exact lk_m1 rfl | exact lk_m2 rfl | exact lk_m3 rfl | exact lk_o rfl | exact lk_a2 rfl | exact lk_a3 rfl | exact lk_a4 rfl | exact lk_a1 rfl | exact lk_a5 rfl | exact lk_a6 rfl | exact lk_a7 rfl | exact lk_a8 rfl | exact lk_a rfl); (focus exact inferInstance); (focus exact inferInstance); (focus first | exact True.intro | assumption | rfl | omega | ((repeat' (first | assumption | refine And.intro ?_ ?_ | omega | rfl)); done) | fail); (focus exact RV.v); (focus rfl)))
      | (apply lop_max_l; (focus rfl); (focus rfl); (focus rfl); (focus omega); (focus rfl))
      | (apply lop_max_r; (focus rfl); (focus rfl); (focus rfl); (focus omega); (focus rfl))
      | (apply gField; (focus rfl); first | exact lop_fieldAddr_p rfl rfl (by decide) rfl rfl | exact lop_fieldAddr_bx rfl rfl (by decide) rfl rfl)
            | (apply lop_bsa; (focus rfl); (focus exact inferInstance); (focus exact inferInstance); (focus exact inferInstance); (focus repeat' (first | exact All2.nil | (apply bs_cons; (focus rfl); (focus rfl); (focus rfl)))); (focus rfl); (focus decide); (focus first | decide | omega); (focus rfl); (focus rfl))
            | (apply lop_mfa1; (focus rfl); (focus rfl); (focus rfl); (focus rfl); (focus rfl); (focus rfl))
            | (apply lop_mfa2; (focus rfl); (focus rfl); (focus rfl); (focus rfl); (focus rfl); (focus rfl); (focus rfl); (focus rfl); (focus rfl); (focus decide); (focus rfl))
            | (apply lop_mfa3; (focus rfl); (focus rfl); (focus rfl); (focus rfl); (focus rfl); (focus rfl); (focus rfl); (focus rfl); (focus rfl); (focus rfl); (focus rfl); (focus rfl); (focus rfl); (focus decide); (focus decide); (focus decide); (focus rfl))
            | (apply gLoad; (focus rfl); apply lop_ld_bxp; (focus rfl); (focus exact inferInstance); (focus rfl); (focus rfl); (focus rfl); (focus rfl); (focus rfl))
      | exact lopV
      | fail) : LOp C o σ e ro := h
section steps
variable {C : Ctx} {ops : Array Oper} {o : Oper} {rest : List Oper} {K : St → Prop} {σ : St} {e : Eff} {ro : Nat → Bool} {W : List (Nat × Nat)} {i : Nat}
theorem rnC {d : Nat} (hk : RunN C ops rest K (e.app (some d) σ)) (hg : Guard ops σ o true := by first | exact gd_n rfl rfl | exact gd_t rfl rfl rfl rfl | exact gd_t rfl rfl rfl (by assumption)) (hd : o.dst = some d := by rfl) (h : LOp C o σ e ro := by exact lopC) : RunN C ops (o :: rest) K σ := rn_any hg hd h hk
theorem rkC {d : Nat} (hk : RunK C ops W (i + 1) rest K (e.app (some d) σ)) (hg : Guard ops σ o true := by first | exact gd_n rfl rfl | exact gd_t rfl rfl rfl rfl | exact gd_t rfl rfl rfl (by assumption)) (hd' : o.dst = some d := by rfl) (hd : dOk C o.dst = true := by rfl) (h : LOp C o σ e ro := by exact lopC)
    (hro : ∀ x, ro x = true → okObj ops W i x = true := by first | exact fun _ => ro_none | exact ro_one rfl | exact ro_k1 rfl | exact ro_one (by kernel_rfl) | exact ro_k1 (by kernel_rfl) | exact ro_kIn (by decide)) (hob : ∀ p ∈ e.obj, (i, p.1) ∈ W := by first | exact ob_none | exact ob_one (by decide) | decide) : RunK C ops W i (o :: rest) K σ := rk_wr hg hd' hd h hro hob hk
end steps
end PA
open PA
end Go.Proofs.YthhlcdacmlnjdaaGreat.Rg
