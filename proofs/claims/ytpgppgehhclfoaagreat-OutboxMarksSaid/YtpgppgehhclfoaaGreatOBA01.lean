/- The layer's texts CoreD, CoreE, CoreF, one behind the other. -/
import Derived.Test.YtpgppgehhclfoaaGreatOBA00
/- THE ABSTRACT WALK, part 4: operations that reckon or read. -/
namespace Go.Aw
open Go Go.RowKit
set_option linter.unusedVariables false
set_option linter.unusedSimpArgs false
section ops
variable {C:Ctx} {o:Oper} {σ:St}
theorem lop_val {av:AV} {ro:Nat→Bool} (hd:dOk C o.dst=true)
    (h:∀ τ a w G,(∀ x,x∈o.op.operands→τ.look x=σ.look x)→(∀ x,ro x=true→τ.mem x=σ.mem x)→RelG C τ a w G→
      ∃ v,(execOp a.eval o).run C.P w=.ok (.value v) w∧av.holds G.μ ⟨w,G.S⟩ v):LOp C o σ ⟨av,[]⟩ ro:=by
  refine ⟨fun x m h=>by simp at h,fun τ hl hm a w ⟨G,hG⟩ K Q hK=>?_⟩
  obtain ⟨v,hv,hh⟩:=h τ a w G hl hm hG
  refine wpIn_exec (notDefer hv (by first|(intro d h;cases h;done)|(rcases h0 with rfl | ⟨rfl,_⟩<;>intro d h<;>cases h))) ?_
  rw [hv]
  exact hK _ _ ⟨G,hG.setv hd hh⟩
theorem lop_grow {av:AV} {ro:Nat→Bool} (hd:dOk C o.dst=true)
    (h:∀ τ a w G,(∀ x,x∈o.op.operands→τ.look x=σ.look x)→(∀ x,ro x=true→τ.mem x=σ.mem x)→RelG C τ a w G→
      ∃ v w',(execOp a.eval o).run C.P w=.ok (.value v) w'∧Quiet w w'∧av.holds G.μ ⟨w',fun b=>G.S b∨(w.heap.size≤b∧b < w'.heap.size)⟩ v):LOp C o σ ⟨av,[]⟩ ro:=by
  refine ⟨fun x m h=>by simp at h,fun τ hl hm a w ⟨G,hG⟩ K Q hK=>?_⟩
  obtain ⟨v,w',hv,hq,hh⟩:=h τ a w G hl hm hG
  refine wpIn_exec (notDefer hv (by first|(intro d h;cases h;done)|(rcases h0 with rfl | ⟨rfl,_⟩<;>intro d h<;>cases h))) ?_
  rw [hv]
  exact hK _ _ ⟨_,(hG.world hq (fun b=>w.heap.size≤b∧b < w'.heap.size) (fun b hb=>hb)).setv hd hh⟩
theorem look_of {τ:St} {a:Act} {w:World} {G:Gh} (h:RelG C τ a w G) {x:Operand} {av:AV} (hx:τ.look x=av):av.holds G.μ ⟨w,G.S⟩ (a.eval x):=hx ▸ h.look x
theorem val_of {τ:St} {a:Act} {w:World} {G:Gh} (h:RelG C τ a w G) {x:Operand} {c:Value} (hx:τ.look x=.p (.v c)):a.eval x=c:=(look_of h hx).1
theorem lop_move {x:Operand} {av:AV} (ho:o.op=.move x) (hx:σ.look x=av) (hd:dOk C o.dst=true):LOp C o σ ⟨av,[]⟩ (fun _=>false):=
  lop_val hd fun τ a w G hl hm h=>⟨a.eval x,by simp [execOp,ho],look_of h (by rw [hl x (by simp [ho,Op.operands])];exact hx)⟩
theorem lop_assign {x:Operand} {av:AV} (ho:o.op=.assign x) (hx:σ.look x=av) (hd:dOk C o.dst=true):LOp C o σ ⟨av,[]⟩ (fun _=>false):=
  lop_val hd fun τ a w G hl hm h=>⟨a.eval x,by simp [execOp,ho],look_of h (by rw [hl x (by simp [ho,Op.operands])];exact hx)⟩
theorem lop_pick_t {c x y:Operand} {b:Bool} {av:AV} (ho:o.op=.pick c x y) (hc:σ.look c=.p (.v (.bool b))) (hb:b=true) (hx:σ.look x=av) (hd:dOk C o.dst=true):LOp C o σ ⟨av,[]⟩ (fun _=>false):=
  lop_val hd fun τ a w G hl hm h=>by
    have hcv:=val_of h ((hl c (by simp [ho,Op.operands])).trans hc)
    exact ⟨a.eval x,by simp [execOp,ho,hcv,asBool,hb],look_of h (by rw [hl x (by simp [ho,Op.operands])];exact hx)⟩
theorem lop_pick_f {c x y:Operand} {b:Bool} {av:AV} (ho:o.op=.pick c x y) (hc:σ.look c=.p (.v (.bool b))) (hb:b=false) (hx:σ.look y=av) (hd:dOk C o.dst=true):LOp C o σ ⟨av,[]⟩ (fun _=>false):=
  lop_val hd fun τ a w G hl hm h=>by
    have hcv:=val_of h ((hl c (by simp [ho,Op.operands])).trans hc)
    exact ⟨a.eval y,by simp [execOp,ho,hcv,asBool,hb],look_of h (by rw [hl y (by simp [ho,Op.operands])];exact hx)⟩
theorem lop_bin {op:BinOp} {t t':TypeId} {x y:Operand} {vx vy r:Value} (ho:o.op=.binOp op t x y t') (hx:σ.look x=.p (.v vx)) (hy:σ.look y=.p (.v vy))
    (hr:∀ w:World,(do eqGuard op t x y vx vy;binOp op t vx vy:Sem Value).run C.P w=.ok r w) (h1:r.oneCell'=true) (hd:dOk C o.dst=true):LOp C o σ ⟨.p (.v r),[]⟩ (fun _=>false):=
  lop_val hd fun τ a w G hl hm h=>by
    have e1:=val_of h ((hl x (by simp [ho,Op.operands])).trans hx)
    have e2:=val_of h ((hl y (by simp [ho,Op.operands])).trans hy)
    refine ⟨r,?_,rfl,h1⟩
    simp only [execOp,ho,e1,e2]
    rw [Sem.run_bind,hr w];rfl
section int
variable {t t':TypeId} {x y:Operand} {k k':IntKind} {m n:Int}
theorem eqg_int (op:BinOp) (w:World):(eqGuard op t x y (.int k m) (.int k' n)).run C.P w=.ok () w:=by
  unfold eqGuard;cases op<;>simp [pure]
theorem lop_add (ho:o.op=.binOp .add t x y t') (hx:σ.look x=.p (.v (.int k m))) (hy:σ.look y=.p (.v (.int k n))) (hd:dOk C o.dst=true):LOp C o σ ⟨.p (.v (.int k (k.wrap (m+n)))),[]⟩ (fun _=>false):=
  lop_bin ho hx hy (fun w=>by simp [eqg_int,binOp,Op.intArith]) rfl hd
theorem lop_sub (ho:o.op=.binOp .sub t x y t') (hx:σ.look x=.p (.v (.int k m))) (hy:σ.look y=.p (.v (.int k n))) (hd:dOk C o.dst=true):LOp C o σ ⟨.p (.v (.int k (k.wrap (m - n)))),[]⟩ (fun _=>false):=
  lop_bin ho hx hy (fun w=>by simp [eqg_int,binOp,Op.intArith]) rfl hd
theorem lop_mul (ho:o.op=.binOp .mul t x y t') (hx:σ.look x=.p (.v (.int k m))) (hy:σ.look y=.p (.v (.int k n))) (hd:dOk C o.dst=true):LOp C o σ ⟨.p (.v (.int k (k.wrap (m * n)))),[]⟩ (fun _=>false):=
  lop_bin ho hx hy (fun w=>by simp [eqg_int,binOp,Op.intArith]) rfl hd
theorem lop_add' (ho:o.op=.binOp .add t x y t') (hx:σ.look x=.p (.v (.int k m))) (hy:σ.look y=.p (.v (.int k n))) (hd:dOk C o.dst=true) (hw:k.wrap (m+n)=m+n):LOp C o σ ⟨.p (.v (.int k (m+n))),[]⟩ (fun _=>false):=by
  have:=lop_add ho hx hy hd;rwa [hw] at this
theorem lop_sub' (ho:o.op=.binOp .sub t x y t') (hx:σ.look x=.p (.v (.int k m))) (hy:σ.look y=.p (.v (.int k n))) (hd:dOk C o.dst=true) (hw:k.wrap (m - n)=m - n):LOp C o σ ⟨.p (.v (.int k (m - n))),[]⟩ (fun _=>false):=by
  have:=lop_sub ho hx hy hd;rwa [hw] at this
theorem lop_mul' (ho:o.op=.binOp .mul t x y t') (hx:σ.look x=.p (.v (.int k m))) (hy:σ.look y=.p (.v (.int k n))) (hd:dOk C o.dst=true) (hw:k.wrap (m * n)=m * n):LOp C o σ ⟨.p (.v (.int k (m * n))),[]⟩ (fun _=>false):=by
  have:=lop_mul ho hx hy hd;rwa [hw] at this
theorem lop_quo (ho:o.op=.binOp .quo t x y t') (hx:σ.look x=.p (.v (.int k m))) (hy:σ.look y=.p (.v (.int k n))) (hn:n≠0) (hd:dOk C o.dst=true):LOp C o σ ⟨.p (.v (.int k (k.wrap (m.tdiv n)))),[]⟩ (fun _=>false):=
  lop_bin ho hx hy (fun w=>by simp [eqg_int,binOp,Op.intDiv,hn]) rfl hd
theorem lop_quo' (ho:o.op=.binOp .quo t x y t') (hx:σ.look x=.p (.v (.int k m))) (hy:σ.look y=.p (.v (.int k n))) (hd:dOk C o.dst=true) (hm:0≤m) (hn:1≤n) (hw:k.wrap (m / n)=m / n):LOp C o σ ⟨.p (.v (.int k (m / n))),[]⟩ (fun _=>false):=by
  have:=lop_quo ho hx hy (by omega) hd;rwa [Int.tdiv_eq_ediv_of_nonneg hm,hw] at this
theorem lop_rem (ho:o.op=.binOp .rem t x y t') (hx:σ.look x=.p (.v (.int k m))) (hy:σ.look y=.p (.v (.int k n))) (hn:n≠0) (hd:dOk C o.dst=true):LOp C o σ ⟨.p (.v (.int k (m.tmod n))),[]⟩ (fun _=>false):=
  lop_bin ho hx hy (fun w=>by simp [eqg_int,binOp,Op.intDiv,hn]) rfl hd
theorem lop_rem' (ho:o.op=.binOp .rem t x y t') (hx:σ.look x=.p (.v (.int k m))) (hy:σ.look y=.p (.v (.int k n))) (hd:dOk C o.dst=true) (hm:0≤m) (hn:1≤n):LOp C o σ ⟨.p (.v (.int k (m % n))),[]⟩ (fun _=>false):=by
  have:=lop_rem ho hx hy (by omega) hd;rwa [Int.tmod_eq_emod_of_nonneg hm] at this
theorem lop_cmp {op:BinOp} {p:Prop} [Decidable p] (ho:o.op=.binOp op t x y t') (hx:σ.look x=.p (.v (.int k m))) (hy:σ.look y=.p (.v (.int k n)))
    (hr:∀ w:World,(binOp op t (.int k m) (.int k n)).run C.P w=.ok (.bool (decide p)) w) (hd:dOk C o.dst=true):LOp C o σ ⟨.p (.v (.bool (decide p))),[]⟩ (fun _=>false):=
  lop_bin ho hx hy (fun w=>by simp [eqg_int,hr]) rfl hd
theorem lop_lss (ho:o.op=.binOp .lss t x y t') (hx:σ.look x=.p (.v (.int k m))) (hy:σ.look y=.p (.v (.int k n))) (hd:dOk C o.dst=true):LOp C o σ ⟨.p (.v (.bool (decide (m < n)))),[]⟩ (fun _=>false):=
  lop_cmp ho hx hy (fun w=>by simp [binOp,Op.intCmp]) hd
theorem lop_leq (ho:o.op=.binOp .leq t x y t') (hx:σ.look x=.p (.v (.int k m))) (hy:σ.look y=.p (.v (.int k n))) (hd:dOk C o.dst=true):LOp C o σ ⟨.p (.v (.bool (decide (m≤n)))),[]⟩ (fun _=>false):=
  lop_cmp ho hx hy (fun w=>by simp [binOp,Op.intCmp]) hd
theorem lop_gtr (ho:o.op=.binOp .gtr t x y t') (hx:σ.look x=.p (.v (.int k m))) (hy:σ.look y=.p (.v (.int k n))) (hd:dOk C o.dst=true):LOp C o σ ⟨.p (.v (.bool (decide (n < m)))),[]⟩ (fun _=>false):=
  lop_cmp ho hx hy (fun w=>by simp [binOp,Op.intCmp]) hd
theorem lop_geq (ho:o.op=.binOp .geq t x y t') (hx:σ.look x=.p (.v (.int k m))) (hy:σ.look y=.p (.v (.int k n))) (hd:dOk C o.dst=true):LOp C o σ ⟨.p (.v (.bool (decide (n≤m)))),[]⟩ (fun _=>false):=
  lop_cmp ho hx hy (fun w=>by simp [binOp,Op.intCmp]) hd
theorem lop_eql (ho:o.op=.binOp .eql t x y t') (hx:σ.look x=.p (.v (.int k m))) (hy:σ.look y=.p (.v (.int k n))) (hd:dOk C o.dst=true):LOp C o σ ⟨.p (.v (.bool (decide (m=n)))),[]⟩ (fun _=>false):=
  lop_cmp ho hx hy (fun w=>by simp [binOp,Op.intCmp];rfl) hd
theorem lop_neq (ho:o.op=.binOp .neq t x y t') (hx:σ.look x=.p (.v (.int k m))) (hy:σ.look y=.p (.v (.int k n))) (hd:dOk C o.dst=true):LOp C o σ ⟨.p (.v (.bool (decide (m≠n)))),[]⟩ (fun _=>false):=
  lop_cmp ho hx hy (fun w=>by simp [binOp,Op.intCmp,bne,BEq.beq]) hd
end int
section bool
variable {t t':TypeId} {x y:Operand} {p q:Bool}
theorem eqg_bool (op:BinOp) (w:World):(eqGuard op t x y (.bool p) (.bool q)).run C.P w=.ok () w:=by
  unfold eqGuard;cases op<;>simp [pure]
theorem run_eqBool' {P:Program} {t:TypeId} (hd:P.underlying t=some .bool) (d:Nat) (p q:Bool) (w:World):(Op.equalIn (d+1) t (.bool p) (.bool q)).run P w=.ok (p == q) w:=by
  simp [Op.equalIn,run_underlying hd]
theorem run_eqBool {P:Program} {t:TypeId} {d:TypeDesc} (hd:P.underlying t=some d) (hk:TK.of d=.bool) (p q:Bool) (w:World):(Op.equal t (.bool p) (.bool q)).run P w=.ok (p == q) w:=by
  have:d=.bool:=by cases d<;>simp [TK.of] at hk;rfl
  subst this
  exact run_eqBool' hd 9999 p q w
theorem lop_eqlb {sz by_:Nat} [hT:TI C.P t .bool sz by_] (ho:o.op=.binOp .eql t x y t') (hx:σ.look x=.p (.v (.bool p))) (hy:σ.look y=.p (.v (.bool q))) (hd:dOk C o.dst=true):LOp C o σ ⟨.p (.v (.bool (p == q))),[]⟩ (fun _=>false):=
  lop_bin ho hx hy (fun w=>by
    obtain ⟨d,hd,hk⟩:=hT.undd
    simp [eqg_bool,binOp,run_eqBool hd hk]) rfl hd
theorem lop_neqb {sz by_:Nat} [hT:TI C.P t .bool sz by_] (ho:o.op=.binOp .neq t x y t') (hx:σ.look x=.p (.v (.bool p))) (hy:σ.look y=.p (.v (.bool q))) (hd:dOk C o.dst=true):LOp C o σ ⟨.p (.v (.bool (p != q))),[]⟩ (fun _=>false):=
  lop_bin ho hx hy (fun w=>by
    obtain ⟨d,hd,hk⟩:=hT.undd
    simp [eqg_bool,binOp,run_eqBool hd hk,bne]) rfl hd
theorem lop_not {x:Operand} {p:Bool} (ho:o.op=.unOp .not t x) (hx:σ.look x=.p (.v (.bool p))) (hd:dOk C o.dst=true):LOp C o σ ⟨.p (.v (.bool (!p))),[]⟩ (fun _=>false):=
  lop_val hd fun τ a w G hl hm h=>by
    have e1:=val_of h ((hl x (by simp [ho,Op.operands])).trans hx)
    exact ⟨.bool (!p),by simp [execOp,ho,e1,Op.unary],rfl,rfl⟩
end bool
theorem lop_neg {t:TypeId} {x:Operand} {k:IntKind} {n:Int} (ho:o.op=.unOp .neg t x) (hx:σ.look x=.p (.v (.int k n))) (hd:dOk C o.dst=true):LOp C o σ ⟨.p (.v (.int k (k.wrap (0 - n)))),[]⟩ (fun _=>false):=
  lop_val hd fun τ a w G hl hm h=>by
    have e1:=val_of h ((hl x (by simp [ho,Op.operands])).trans hx)
    exact ⟨_,by simp only [execOp,ho,e1,Op.unary,Op.intArith];rfl,rfl,rfl⟩
theorem lop_extract {x:Operand} {ix:Nat} {vs:List SV} {s:SV} (ho:o.op=.extract x ix) (hx:σ.look x=.tup vs) (hs:vs[ix]?=some s) (hd:dOk C o.dst=true):LOp C o σ ⟨.s s,[]⟩ (fun _=>false):=
  lop_val hd fun τ a w G hl hm h=>by
    obtain ⟨arr,h1,h2⟩:=look_of h ((hl x (by simp [ho,Op.operands])).trans hx)
    obtain ⟨v,hv,hh⟩:=h2.get hs
    exact ⟨v,by simp [execOp,ho,h1,Instr.extract,hv],hh⟩
theorem lop_conv {s d:TypeId} {x:Operand} {k k':IntKind} {n:Int} {sz by_:Nat} [hT:TI C.P d (.int k') sz by_] {ks:TK} {sz' by':Nat} [hS:TI C.P s ks sz' by'] (ho:o.op=.convert s d x) (hx:σ.look x=.p (.v (.int k n))) (hd:dOk C o.dst=true) :
    LOp C o σ ⟨.p (.v (.int k' (k'.wrap n))),[]⟩ (fun _=>false):=
  lop_val hd fun τ a w G hl hm h=>by
    have e1:=val_of h ((hl x (by simp [ho,Op.operands])).trans hx)
    obtain ⟨dd,hdd,hk⟩:=hT.undd
    obtain ⟨sd,hsd,hk'⟩:=hS.undd
    have:dd=.int k':=by cases dd<;>simp [TK.of] at hk;rw [hk]
    subst this
    exact ⟨_,by simp [execOp,ho,e1,convert,run_underlying hdd,run_underlying hsd,Conv.intToInt],rfl,rfl⟩
theorem lop_conv' {s d:TypeId} {x:Operand} {k k':IntKind} {n:Int} {sz by_:Nat} [hT:TI C.P d (.int k') sz by_] {ks:TK} {sz' by':Nat} [hS:TI C.P s ks sz' by'] (ho:o.op=.convert s d x) (hx:σ.look x=.p (.v (.int k n))) (hd:dOk C o.dst=true)
    (hw:k'.wrap n=n):LOp C o σ ⟨.p (.v (.int k' n)),[]⟩ (fun _=>false):=by
  have:=lop_conv ho hx hd;rwa [hw] at this
/-! ### Addresses -/
def _root_.Go.Aw.PVal.at_ (row:List PVal):PVal where
  holds X v:=∃ a,v=.pointer (some a)∧a.spot=none∧X.S a.block∧∃ cs ty fr,X.w.heap[a.block]?=some (.cells cs ty fr)∧∀ j p,row[j]?=some p→∃ c,cs[a.off+j]?=some c∧PVal.holds p X c
  mono:=by
    rintro x y v hle ⟨a,h1,h2,h3,cs,ty,fr,h4,h5⟩
    refine ⟨a,h1,h2,(hle _ h3).1,cs,ty,fr,(hle _ h3).2.trans h4,fun j p hp=>?_⟩
    obtain ⟨c,hc,hh⟩:=h5 j p hp
    exact ⟨c,hc,p.mono hle hh⟩
  one:=by rintro x v ⟨a,rfl,_⟩;rfl
theorem add_addr' (a:Addr) (ha:a.spot=none) (n:Nat):a.add n=⟨a.block,a.off+n,none⟩:=by
  obtain ⟨b,o,s⟩:=a;simp at ha;subst ha;exact add_addr b o n
theorem lop_fieldAddr {T:TypeId} {x:Operand} {f:Nat} {fs:List (Nat × TypeId)} {sz by_:Nat} [hT:TI C.P T (.struct fs) sz by_] {off ft:Nat} {kf:TK} {szf bf:Nat} [hf:TI C.P ft kf szf bf]
    {ob g of':Nat} (ho:o.op=.fieldAddr T x f) (hfs:fs[f]?=some (off,ft)) (hz:szf≠0) (hx:σ.look x=.o (.ptr ob g of')) (hd:dOk C o.dst=true):LOp C o σ ⟨.o (.ptr ob g (of'+off)),[]⟩ (fun _=>false):=
  lop_val hd fun τ a w G hl hm h=>by
    obtain ⟨b,c,h1,h2⟩:=look_of h ((hl x (by simp [ho,Op.operands])).trans hx)
    obtain ⟨d,hdd,hk⟩:=hT.undd
    cases d with
    | struct fields=>
      simp [TK.of] at hk
      subst hk
      have hfl:∃ fd,fields[f]?=some fd∧fd.offset=off∧fd.type=ft:=by
        rw [List.getElem?_map] at hfs
        cases hq:fields.toList[f]? with
        | none=>rw [hq] at hfs;cases hfs
        | some fd=>rw [hq] at hfs;simp at hfs;exact ⟨fd,by simpa using hq,hfs.1,hfs.2⟩
      obtain ⟨fd,hq,rfl,rfl⟩:=hfl
      refine ⟨.pointer (some ⟨b,of'+fd.offset,none⟩),?_,b,c,h1,rfl⟩
      simp [execOp,ho,h2,Instr.fieldAt,run_underlying hdd,hq,Instr.sureAddr,fieldPlace,hf.run_sizeOf,hz,add_addr]
    | _=>simp [TK.of] at hk
theorem lop_fieldAddr_p {T:TypeId} {x:Operand} {f:Nat} {fs:List (Nat × TypeId)} {sz by_:Nat} [hT:TI C.P T (.struct fs) sz by_] {off ft:Nat} {kf:TK} {szf bf:Nat} [hf:TI C.P ft kf szf bf]
    {row:List PVal} (ho:o.op=.fieldAddr T x f) (hfs:fs[f]?=some (off,ft)) (hz:szf≠0) (hx:σ.look x=.p (.at_ row)) (hd:dOk C o.dst=true):LOp C o σ ⟨.p (.at_ (row.drop off)),[]⟩ (fun _=>false):=
  lop_val hd fun τ a w G hl hm h=>by
    obtain ⟨ad,h1,h2,h3,cs,ty,fr,h4,h5⟩:=look_of h ((hl x (by simp [ho,Op.operands])).trans hx)
    obtain ⟨d,hdd,hk⟩:=hT.undd
    cases d with
    | struct fields=>
      simp [TK.of] at hk
      subst hk
      have hfl:∃ fd,fields[f]?=some fd∧fd.offset=off∧fd.type=ft:=by
        rw [List.getElem?_map] at hfs
        cases hq:fields.toList[f]? with
        | none=>rw [hq] at hfs;cases hfs
        | some fd=>rw [hq] at hfs;simp at hfs;exact ⟨fd,by simpa using hq,hfs.1,hfs.2⟩
      obtain ⟨fd,hq,rfl,rfl⟩:=hfl
      refine ⟨.pointer (some ⟨ad.block,ad.off+fd.offset,none⟩),?_,_,rfl,rfl,h3,cs,ty,fr,h4,fun j p hp=>?_⟩
      · simp [execOp,ho,h1,Instr.fieldAt,run_underlying hdd,hq,Instr.sureAddr,fieldPlace,hf.run_sizeOf,hz,add_addr' ad h2]
      · have:=h5 (fd.offset+j) p (by simpa using hp)
        simpa [Nat.add_assoc] using this
    | _=>simp [TK.of] at hk
theorem lop_indexAddr_arr {T e:TypeId} {x ix:Operand} {n:Nat} {sz by_:Nat} [hT:TI C.P T (.array n e) sz by_] {ke:TK} {sze be:Nat} [he:TI C.P e ke sze be] {ob g off:Nat} {k:IntKind} {i:Int}
    (ho:o.op=.indexAddr T x ix) (hx:σ.look x=.o (.ptr ob g off)) (hi:σ.look ix=.p (.v (.int k i))) (hb:0≤i∧i < n) (hd:dOk C o.dst=true):LOp C o σ ⟨.o (.ptr ob g (off+i.toNat * sze)),[]⟩ (fun _=>false):=
  lop_val hd fun τ a w G hl hm h=>by
    obtain ⟨b,c,h1,h2⟩:=look_of h ((hl x (by simp [ho,Op.operands])).trans hx)
    have e2:=val_of h ((hl ix (by simp [ho,Op.operands])).trans hi)
    obtain ⟨d,hdd,hk⟩:=hT.undd
    have:d=.array n e:=by cases d<;>simp [TK.of] at hk;rw [hk.1,hk.2]
    subst this
    refine ⟨.pointer (some ⟨b,off+i.toNat * sze,none⟩),?_,b,c,h1,rfl⟩
    simp [execOp,ho,h2,e2,Instr.indexAt,asIntOf,run_underlying hdd,Instr.sureAddr,hb,he.run_sizeOf,add_addr]
theorem lop_indexAddr_sl {T e:TypeId} {x ix:Operand} {sz by_:Nat} [hT:TI C.P T (.slice e) sz by_] {ke:TK} {sze be:Nat} [he:TI C.P e ke sze be] {rows:List (List PVal)} {ex:Bool} {k:IntKind} {i:Int} {row:List PVal}
    (ho:o.op=.indexAddr T x ix) (hx:σ.look x=.p (.sl sze rows ex)) (hi:σ.look ix=.p (.v (.int k i))) (h0:0≤i) (hb:rows[i.toNat]?=some row) (hd:dOk C o.dst=true):LOp C o σ ⟨.p (.at_ row),[]⟩ (fun _=>false):=
  lop_val hd fun τ a w G hl hm h=>by
    obtain ⟨base,cap,h1,h2,h3,h4,h5⟩:=look_of h ((hl x (by simp [ho,Op.operands])).trans hx)
    have e2:=val_of h ((hl ix (by simp [ho,Op.operands])).trans hi)
    have hlt:i.toNat < rows.length:=(List.getElem?_eq_some_iff.1 hb).1
    cases base with
    | none=>simp at h5;rw [h5.1] at hlt;simp at hlt
    | some ad=>
      rcases h5 with h5 | ⟨g1,g2,cs,ty,fr,g3,g4⟩
      · rw [h5] at hlt;simp at hlt
      obtain ⟨d,hdd,hk⟩:=hT.undd
      have:d=.slice e:=by cases d<;>simp [TK.of] at hk;rw [hk]
      subst this
      refine ⟨.pointer (some ⟨ad.block,ad.off+i.toNat * sze,none⟩),?_,_,rfl,rfl,g2,cs,ty,fr,g3,fun j p hp=>(g4 _ _ hb).2 j p hp⟩
      have hb':0≤i∧i < (rows.length:Int):=⟨h0,by omega⟩
      simp [execOp,ho,h1,e2,Instr.indexAt,asIntOf,run_underlying hdd,hb',he.run_sizeOf,add_addr' ad g1]
/-! ### Reading -/
theorem lop_load_box {T:TypeId} {x:Operand} {k:TK} {sz by_:Nat} [hT:TI C.P T k sz by_] {ob g off n:Nat} {ty:TypeId} {cs:List AC} (ho:o.op=.load T x) (hx:σ.look x=.o (.ptr ob g off)) (hm:σ.mem ob=(n,some (.box ty cs))) (hn:n=g+1)
    (hk:k.agg=true) (hl:off+sz≤cs.length) (hd:dOk C o.dst=true):LOp C o σ ⟨.a ((cs.drop off).take sz),[]⟩ (fun y=>y == ob):=
  lop_val hd fun τ a w G hl' hm' h=>by
    subst hn
    obtain ⟨b,c,h1,h2⟩:=look_of h ((hl' x (by simp [ho,Op.operands])).trans hx)
    obtain ⟨g',m',hg,hmm,b',arr,h4,h5,h6,h7⟩:=h.mem ob _ _ (by rw [hm' ob (by simp)];exact hm)
    obtain rfl:g=g':=by omega
    rw [h1] at hmm;obtain rfl:=Option.some.inj hmm
    simp only [Option.some.injEq] at h4;subst h4
    have hr:=run_loadVar hT h6 (off:=off) (by rw [← h7.1];exact hl) (by simp [hk])
    simp only [hk,if_true] at hr
    exact ⟨_,by simp [execOp,ho,h2,Instr.loadAt,Instr.sureAddr,hr],_,rfl,(h7.drop off).take sz⟩
theorem lop_load_all {T:TypeId} {x:Operand} {k:TK} {sz by_:Nat} [hT:TI C.P T k sz by_] {ob g n:Nat} {ty:TypeId} {cs:List AC} (ho:o.op=.load T x) (hx:σ.look x=.o (.ptr ob g 0)) (hm:σ.mem ob=(n,some (.box ty cs))) (hn:n=g+1)
    (hk:k.agg=true) (hl:cs.length=sz) (hd:dOk C o.dst=true):LOp C o σ ⟨.a cs,[]⟩ (fun y=>y == ob):=by
  have:=lop_load_box (o:=o) ho hx hm hn hk (by omega) hd
  simpa [List.take_of_length_le (Nat.le_of_eq hl)] using this
theorem lop_load_one {T:TypeId} {x:Operand} {k:TK} {sz by_:Nat} [hT:TI C.P T k sz by_] {ob g off n:Nat} {ty:TypeId} {cs:List AC} {c:AC} (ho:o.op=.load T x) (hx:σ.look x=.o (.ptr ob g off)) (hm:σ.mem ob=(n,some (.box ty cs))) (hn:n=g+1)
    (hk:k.agg=false) (hs:sz=1) (hc:cs[off]?=some c) (hd:dOk C o.dst=true):LOp C o σ ⟨.o c,[]⟩ (fun y=>y == ob):=
  lop_val hd fun τ a w G hl' hm' h=>by
    subst hn
    obtain ⟨b,c',h1,h2⟩:=look_of h ((hl' x (by simp [ho,Op.operands])).trans hx)
    obtain ⟨g',m',hg,hmm,b',arr,h4,h5,h6,h7⟩:=h.mem ob _ _ (by rw [hm' ob (by simp)];exact hm)
    obtain rfl:g=g':=by omega
    rw [h1] at hmm;obtain rfl:=Option.some.inj hmm
    simp only [Option.some.injEq] at h4;subst h4
    obtain ⟨v,hv,hh⟩:=h7.get hc
    have hlt:off < arr.length:=(List.getElem?_eq_some_iff.1 hv).1
    have hr:=run_loadVar hT h6 (off:=off) (by omega) (fun _=>hs)
    simp only [hk,Bool.false_eq_true,if_false] at hr
    have e:arr.getD off undef=v:=by simp [List.getD_eq_getElem?_getD,hv]
    rw [e] at hr
    exact ⟨v,by simp [execOp,ho,h2,Instr.loadAt,Instr.sureAddr,hr],hh⟩
theorem stable_load {P:Program} {T:TypeId} {k:TK} {sz by_:Nat} (hT:TI P T k sz by_) {w:World} {a:Addr} (ha:a.spot=none) {cs:Array Value} {ty:TypeId} {fr:Nat × Nat} (hg:w.heap[a.block]?=some (.cells cs ty fr))
    (hl:a.off+sz≤cs.size) (h1:k.agg=false→sz=1) :
    (loadVar T a).run P w=.ok (if k.agg then .agg ((cs.toList.drop a.off).take sz).toArray else cs.toList.getD a.off undef) w:=by
  obtain ⟨b,off,s⟩:=a
  simp at ha;subst ha
  exact run_loadVar (arr:=cs.toList) hT (by simpa using hg) (by simpa using hl) h1
theorem lop_load_at {T:TypeId} {x:Operand} {k:TK} {sz by_:Nat} [hT:TI C.P T k sz by_] {row:List PVal} (ho:o.op=.load T x) (hx:σ.look x=.p (.at_ row)) (hk:k.agg=true) (hz:0 < sz) (hl:sz≤row.length) (hd:dOk C o.dst=true) :
    LOp C o σ ⟨.a ((row.take sz).map .p),[]⟩ (fun _=>false):=
  lop_val hd fun τ a w G hl' hm' h=>by
    obtain ⟨ad,h1,h2,h3,cs,ty,fr,h4,h5⟩:=look_of h ((hl' x (by simp [ho,Op.operands])).trans hx)
    have hsz:ad.off+sz≤cs.size:=by
      have hr:row[sz - 1]?=some (row[sz - 1]'(by omega)):=List.getElem?_eq_getElem _
      obtain ⟨c,hc,_⟩:=h5 _ _ hr
      have:=(Array.getElem?_eq_some_iff.1 hc).1
      omega
    have hr:=stable_load hT h2 h4 hsz (by simp [hk])
    simp only [hk,if_true] at hr
    refine ⟨.agg ((cs.toList.drop ad.off).take sz).toArray,by simp only [execOp,ho,h1,Instr.loadAt,Instr.sureAddr,Sem.run_bind,Sem.run_pure,Result.andThen_ok,hr],(cs.toList.drop ad.off).take sz,rfl,?_⟩
    refine ⟨by simp;omega,fun i c v hc hv=>?_⟩
    rw [List.getElem?_map] at hc
    rw [List.getElem?_take] at hc hv
    split at hc
    · rename_i hi
      cases hp:row[i]? with
      | none=>simp [hp] at hc
      | some p=>
        simp [hp] at hc;subst hc
        obtain ⟨c',hc',hh⟩:=h5 i p hp
        simp [hi] at hv
        have:c'=v:=by
          rw [hv] at hc';exact (Option.some.inj hc').symm
        subst this;exact hh
    · simp at hc
theorem lop_load_at1 {T:TypeId} {x:Operand} {k:TK} {sz by_:Nat} [hT:TI C.P T k sz by_] {row:List PVal} {p:PVal} (ho:o.op=.load T x) (hx:σ.look x=.p (.at_ row)) (hk:k.agg=false) (hs:sz=1) (hp:row[0]?=some p) (hd:dOk C o.dst=true) :
    LOp C o σ ⟨.p p,[]⟩ (fun _=>false):=
  lop_val hd fun τ a w G hl' hm' h=>by
    obtain ⟨ad,h1,h2,h3,cs,ty,fr,h4,h5⟩:=look_of h ((hl' x (by simp [ho,Op.operands])).trans hx)
    obtain ⟨c,hc,hh⟩:=h5 0 p hp
    have hlt:=(Array.getElem?_eq_some_iff.1 hc).1
    have hr:=stable_load hT h2 h4 (by rw [hs];simp at hlt;omega) (fun _=>hs)
    simp only [hk,Bool.false_eq_true,if_false] at hr
    have e:cs.toList.getD ad.off undef=c:=by
      simp only [Nat.add_zero] at hc
      simp [List.getD_eq_getElem?_getD,hc]
    rw [e] at hr
    exact ⟨c,by simp only [execOp,ho,h1,Instr.loadAt,Instr.sureAddr,Sem.run_bind,Sem.run_pure,Result.andThen_ok,hr],hh⟩
theorem run_part {P:Program} {T:TypeId} {k:TK} {sz by_:Nat} (hT:TI P T k sz by_) (arr:List Value) (off:Nat) (w:World) (hl:off+sz≤arr.length) (h1:k.agg=false→sz=1) :
    (part T arr.toArray off).run P w=.ok (if k.agg then .agg ((arr.drop off).take sz).toArray else arr.getD off undef) w:=by
  unfold part
  rw [Sem.run_bind,hT.run_isAgg w]
  simp only [Result.andThen_ok]
  cases hk:k.agg with
  | true=>
    simp only [if_true,Sem.run_bind,hT.run_sizeOf,Result.andThen_ok,Sem.run_pure,Bool.true_eq_false,if_false]
    congr 2
    rw [List.extract_toArray,List.extract_eq_take_drop,Nat.add_sub_cancel_left]
  | false=>
    have:=h1 hk
    have hlt:off < arr.length:=by omega
    simp [hlt]
theorem lop_index_arr {T e:TypeId} {x ix:Operand} {n:Nat} {sz by_:Nat} [hT:TI C.P T (.array n e) sz by_] {ke:TK} {sze be:Nat} [he:TI C.P e ke sze be] {cs:List AC} {k:IntKind} {i:Int}
    (ho:o.op=.index T x ix) (hx:σ.look x=.a cs) (hi:σ.look ix=.p (.v (.int k i))) (hb:0≤i∧i < n) (hk:ke.agg=true) (hl:i.toNat * sze+sze≤cs.length) (hd:dOk C o.dst=true) :
    LOp C o σ ⟨.a ((cs.drop (i.toNat * sze)).take sze),[]⟩ (fun _=>false):=
  lop_val hd fun τ a w G hl' hm' h=>by
    obtain ⟨arr,h1,h2⟩:=look_of h ((hl' x (by simp [ho,Op.operands])).trans hx)
    have e2:=val_of h ((hl' ix (by simp [ho,Op.operands])).trans hi)
    obtain ⟨d,hdd,hkk⟩:=hT.undd
    have:d=.array n e:=by cases d<;>simp [TK.of] at hkk;rw [hkk.1,hkk.2]
    subst this
    have hr:=run_part he arr (i.toNat * sze) w (by rw [← h2.1];exact hl) (by simp [hk])
    simp only [hk,if_true] at hr
    exact ⟨_,by simp [execOp,ho,h1,e2,Instr.index,asIntOf,run_underlying hdd,hb,he.run_sizeOf,hr],_,rfl,(h2.drop _).take _⟩
theorem lop_index_arr1 {T e:TypeId} {x ix:Operand} {n:Nat} {sz by_:Nat} [hT:TI C.P T (.array n e) sz by_] {ke:TK} {sze be:Nat} [he:TI C.P e ke sze be] {cs:List AC} {c:AC} {k:IntKind} {i:Int}
    (ho:o.op=.index T x ix) (hx:σ.look x=.a cs) (hi:σ.look ix=.p (.v (.int k i))) (hb:0≤i∧i < n) (hk:ke.agg=false) (hs:sze=1) (hc:cs[i.toNat]?=some c) (hd:dOk C o.dst=true) :
    LOp C o σ ⟨.o c,[]⟩ (fun _=>false):=
  lop_val hd fun τ a w G hl' hm' h=>by
    obtain ⟨arr,h1,h2⟩:=look_of h ((hl' x (by simp [ho,Op.operands])).trans hx)
    have e2:=val_of h ((hl' ix (by simp [ho,Op.operands])).trans hi)
    obtain ⟨d,hdd,hkk⟩:=hT.undd
    have:d=.array n e:=by cases d<;>simp [TK.of] at hkk;rw [hkk.1,hkk.2]
    subst this
    obtain ⟨v,hv,hh⟩:=h2.get hc
    have hlt:=(List.getElem?_eq_some_iff.1 hv).1
    have hr:=run_part he arr (i.toNat * sze) w (by rw [hs];omega) (fun _=>hs)
    simp only [hk,Bool.false_eq_true,if_false] at hr
    have e:arr.getD (i.toNat * sze) undef=v:=by rw [hs];simp [List.getD_eq_getElem?_getD,hv]
    rw [e] at hr
    exact ⟨v,by simp [execOp,ho,h1,e2,Instr.index,asIntOf,run_underlying hdd,hb,he.run_sizeOf,hr],hh⟩
/-! ### Lengths, and slices of slices -/
theorem lop_len_sl {T e:TypeId} {x:Operand} {sz by_:Nat} [hT:TI C.P T (.slice e) sz by_] {es:Nat} {rows:List (List PVal)} {ex:Bool} (ho:o.op=.call ⟨.builtin .len,#[x],#[T]⟩) (hx:σ.look x=.p (.sl es rows ex)) (hd:dOk C o.dst=true) :
    LOp C o σ ⟨.p (.v (.int .i64 rows.length)),[]⟩ (fun _=>false):=
  lop_val hd fun τ a w G hl' hm' h=>by
    obtain ⟨base,cap,h1,h2⟩:=look_of h ((hl' x (by simp [ho,Op.operands,Call.operands])).trans hx)
    obtain ⟨d,hdd,hkk⟩:=hT.undd
    have:d=.slice e:=by cases d<;>simp [TK.of] at hkk;rw [hkk]
    subst this
    exact ⟨.int .i64 rows.length,by simp [execOp,ho,resolve,invoke,builtin,Builtin.len_,h1,run_underlying hdd,goInt],rfl,rfl⟩
theorem lop_len_nil {T e:TypeId} {x:Operand} {sz by_:Nat} [hT:TI C.P T (.slice e) sz by_] {n c:Nat} {b:Option Addr} (ho:o.op=.call ⟨.builtin .len,#[x],#[T]⟩) (hx:σ.look x=.p (.v (.slice b n c))) (hd:dOk C o.dst=true) :
    LOp C o σ ⟨.p (.v (.int .i64 n)),[]⟩ (fun _=>false):=
  lop_val hd fun τ a w G hl' hm' h=>by
    have h1:=val_of h ((hl' x (by simp [ho,Op.operands,Call.operands])).trans hx)
    obtain ⟨d,hdd,hkk⟩:=hT.undd
    have:d=.slice e:=by cases d<;>simp [TK.of] at hkk;rw [hkk]
    subst this
    exact ⟨.int .i64 n,by simp [execOp,ho,resolve,invoke,builtin,Builtin.len_,h1,run_underlying hdd,goInt],rfl,rfl⟩
theorem lop_len_osl {T e:TypeId} {x:Operand} {sz by_:Nat} [hT:TI C.P T (.slice e) sz by_] {ob g es lo len:Nat} (ho:o.op=.call ⟨.builtin .len,#[x],#[T]⟩) (hx:σ.look x=.o (.osl ob g es lo len)) (hd:dOk C o.dst=true) :
    LOp C o σ ⟨.p (.v (.int .i64 len)),[]⟩ (fun _=>false):=
  lop_val hd fun τ a w G hl' hm' h=>by
    obtain ⟨m,c,h0,h00,h1⟩:=look_of h ((hl' x (by simp [ho,Op.operands,Call.operands])).trans hx)
    obtain ⟨d,hdd,hkk⟩:=hT.undd
    have:d=.slice e:=by cases d<;>simp [TK.of] at hkk;rw [hkk]
    subst this
    exact ⟨.int .i64 len,by simp [execOp,ho,resolve,invoke,builtin,Builtin.len_,h1,run_underlying hdd,goInt],rfl,rfl⟩
theorem lop_len_asl {T e:TypeId} {x:Operand} {sz by_:Nat} [hT:TI C.P T (.slice e) sz by_] {ob g off len cap:Nat} (ho:o.op=.call ⟨.builtin .len,#[x],#[T]⟩) (hx:σ.look x=.o (.asl ob g off len cap)) (hd:dOk C o.dst=true) :
    LOp C o σ ⟨.p (.v (.int .i64 len)),[]⟩ (fun _=>false):=
  lop_val hd fun τ a w G hl' hm' h=>by
    obtain ⟨m,c,h0,h1⟩:=look_of h ((hl' x (by simp [ho,Op.operands,Call.operands])).trans hx)
    obtain ⟨d,hdd,hkk⟩:=hT.undd
    have:d=.slice e:=by cases d<;>simp [TK.of] at hkk;rw [hkk]
    subst this
    exact ⟨.int .i64 len,by simp [execOp,ho,resolve,invoke,builtin,Builtin.len_,h1,run_underlying hdd,goInt],rfl,rfl⟩
theorem lop_len_str {T:TypeId} {x:Operand} {sz by_:Nat} [hT:TI C.P T .string sz by_] {s:ByteArray} (ho:o.op=.call ⟨.builtin .len,#[x],#[T]⟩) (hx:σ.look x=.p (.v (.string s))) (hd:dOk C o.dst=true) :
    LOp C o σ ⟨.p (.v (.int .i64 s.size)),[]⟩ (fun _=>false):=
  lop_val hd fun τ a w G hl' hm' h=>by
    have h1:=val_of h ((hl' x (by simp [ho,Op.operands,Call.operands])).trans hx)
    obtain ⟨d,hdd,hkk⟩:=hT.undd
    have:d=.string:=by cases d<;>simp [TK.of] at hkk;rfl
    subst this
    exact ⟨.int .i64 s.size,by simp [execOp,ho,resolve,invoke,builtin,Builtin.len_,h1,run_underlying hdd,goInt],rfl,rfl⟩
end ops
end Go.Aw
/- THE ABSTRACT WALK, part 5: operations that make and write memory. -/
namespace Go.Aw
open Go Go.RowKit
set_option linter.unusedVariables false
set_option linter.unusedSimpArgs false
section ops
variable {C:Ctx} {o:Oper} {σ:St}
theorem lop_gen {ob n:Nat} {mo0:Option MO} {mo':MO} {av:AV} {ro:Nat→Bool} (hro:ro ob=true) (hd:dOk C o.dst=true) (hm:σ.mem ob=(n,mo0))
    (h:∀ τ a w G,(∀ x,x∈o.op.operands→τ.look x=σ.look x)→(∀ x,ro x=true→τ.mem x=σ.mem x)→RelG C τ a w G→
      ∃ v w' m fp',(execOp a.eval o).run C.P w=.ok (.value v) w'∧w'.os=w.os∧TL w' w∧w'.output=w.output∧w.heap.size≤w'.heap.size∧
        (∀ k,k < w.heap.size→k ∉ G.φ ob→w'.heap[k]?=w.heap[k]?)∧(∀ b,b∈fp'→(b∈G.φ ob∨w.heap.size≤b)∧b < w'.heap.size)∧
        mo'.holds (fun x=>if x=ob then G.μ ob++[m] else G.μ x) ⟨w',G.S⟩ m fp'∧av.holds (fun x=>if x=ob then G.μ ob++[m] else G.μ x) ⟨w',G.S⟩ v) :
    LOp C o σ ⟨av,[(ob,(n+1,some mo'))]⟩ ro:=by
  refine ⟨fun x m h=>by simp at h;obtain ⟨rfl,_⟩:=h;exact hro,fun τ hl hm' a w ⟨G,hG⟩ K Q hK=>?_⟩
  obtain ⟨v,w',m,fp',hv,h1,h2,h3,h4,h5,h6,h7,h8⟩:=h τ a w G hl hm' hG
  have hlen:(G.μ ob).length=n:=by have:=hG.gens ob;rw [hm' ob hro,hm] at this;exact this
  refine wpIn_exec (notDefer hv (by first|(intro d h;cases h;done)|(rcases h0 with rfl | ⟨rfl,_⟩<;>intro d h<;>cases h))) ?_
  rw [hv]
  have hu:=hG.upd (o:=ob) (n':=n+1) (mo':=some mo') (μo:=G.μ ob++[m]) (fp':=fp') (fun g x hx=>by
    rw [List.getElem?_append_left (List.getElem?_eq_some_iff.1 hx).1];exact hx) (by simp [hlen]) h1 h2 h3 h4 h5 h6 (fun mo hmo=>by
      obtain rfl:=Option.some.inj hmo
      exact ⟨n,m,rfl,by simp [hlen],h7⟩)
  exact hK _ _ ⟨_,hu.setv hd h8⟩
theorem lop_same {ob n:Nat} {mo0 mo':MO} {av:AV} {ro:Nat→Bool} (hro:ro ob=true) (hd:dOk C o.dst=true) (hm:σ.mem ob=(n,some mo0))
    (h:∀ τ a w G g m,(∀ x,x∈o.op.operands→τ.look x=σ.look x)→(∀ x,ro x=true→τ.mem x=σ.mem x)→RelG C τ a w G→n=g+1→(G.μ ob)[g]?=some m→mo0.holds G.μ ⟨w,G.S⟩ m (G.φ ob)→
      ∃ nx v w',(execOp a.eval o).run C.P w=.ok nx w'∧(nx=.value v∨nx=.skip∧v=undef)∧w'.os=w.os∧TL w' w∧w'.output=w.output∧w.heap.size=w'.heap.size∧
        (∀ k,k < w.heap.size→k ∉ G.φ ob→w'.heap[k]?=w.heap[k]?)∧mo'.holds G.μ ⟨w',G.S⟩ m (G.φ ob)∧av.holds G.μ ⟨w',G.S⟩ v) :
    LOp C o σ ⟨av,[(ob,(n,some mo'))]⟩ ro:=by
  refine ⟨fun x m h=>by simp at h;obtain ⟨rfl,_⟩:=h;exact hro,fun τ hl hm' a w ⟨G,hG⟩ K Q hK=>?_⟩
  have hmo:τ.mem ob=(n,some mo0):=by rw [hm' ob hro];exact hm
  obtain ⟨g,m,hn,hmm,hh⟩:=hG.mem ob n mo0 hmo
  obtain ⟨nx,v,w',hv,h0,h1,h2,h3,h4,h5,h7,h8⟩:=h τ a w G g m hl hm' hG hn hmm hh
  have hlen:(G.μ ob).length=n:=by have:=hG.gens ob;rw [hmo] at this;exact this
  have e:(fun x=>if x=ob then G.μ ob else G.μ x)=G.μ:=by funext x;by_cases hx:x=ob<;>simp [hx]
  have hu:=hG.upd (o:=ob) (n':=n) (mo':=some mo') (μo:=G.μ ob) (fp':=G.φ ob) (w':=w') (fun g x hx=>hx) hlen h1 h2 h3 (Nat.le_of_eq h4) h5 (fun b hb=>⟨.inl hb,by have:=(hG.own ob b hb).2;omega⟩) (fun mo hmo=>by
      obtain rfl:=Option.some.inj hmo
      exact ⟨g,m,hn,hmm,by rw [e];exact h7⟩)
  rw [e] at hu
  refine wpIn_exec (notDefer hv (by first|(intro d h;cases h;done)|(rcases h0 with rfl | ⟨rfl,_⟩<;>intro d h<;>cases h))) ?_
  rw [hv]
  rcases h0 with rfl | ⟨rfl,rfl⟩
  · exact hK _ _ ⟨_,hu.setv hd h8⟩
  · exact hK _ _ ⟨_,hu.setv hd h8⟩
theorem mu_new {μ:Mu} {ob n:Nat} {m:Option Nat × Nat} (hlen:(μ ob).length=n):((fun x=>if x=ob then μ ob++[m] else μ x:Mu) ob)[n]?=some m:=by simp [← hlen]
theorem mu_le {μ:Mu} {ob:Nat} {m:Option Nat × Nat}:μ.le (fun x=>if x=ob then μ ob++[m] else μ x):=fun x g y hy=>by
  by_cases hx:x=ob
  · subst hx
    simp only [if_true]
    rw [List.getElem?_append_left (List.getElem?_eq_some_iff.1 hy).1];exact hy
  · simpa [hx] using hy
theorem wle_alloc {w:World} {S:Nat→Prop} (hS:∀ b,S b→b < w.heap.size) (ob:Obj):Wd.le ⟨w,S⟩ ⟨w.alloc ob,S⟩:=fun b hb=>⟨hb,Below.heap_alloc w ob b (hS b hb)⟩
theorem lop_box {T:TypeId} {x:Operand} {d n:Nat} {mo0:Option MO} {s:SV} (ho:o.op=.box T x) (hdst:o.dst=some d) (hx:σ.look x=.s s) (hm:σ.mem d=(n,mo0)) (hd:dOk C o.dst=true) :
    LOp C o σ ⟨.o (.ptr d n 0),[(d,(n+1,some (.box T s.cells)))]⟩ (fun y=>y == d):=
  lop_gen (by simp) hd hm fun τ a w G hl hm' h=>by
    have h1:s.holds G.μ ⟨w,G.S⟩ (a.eval x):=look_of h ((hl x (by simp [ho,Op.operands])).trans hx)
    have hlen:(G.μ d).length=n:=by have:=h.gens d;rw [hm' d (by simp),hm] at this;exact this
    refine ⟨.pointer (some ⟨w.heap.size,0,none⟩),w.alloc (.cells (a.eval x).cells T),(some w.heap.size,0),[w.heap.size],?_,rfl,.same,rfl,by simp,fun k hk _=>Below.heap_alloc w _ k hk,?_,?_,?_⟩
    · simp only [execOp,ho,Instr.box,newVar,newRow,Sem.run_bind,run_newObj_alloc,Sem.run_pure,Result.andThen_ok]
    · simp
    · refine ⟨w.heap.size,(a.eval x).cells.toList,rfl,rfl,?_,?_⟩
      · simpa using heap_alloc_new w _
      · exact h1.cells.mono fun _ _ k=>k.mono mu_le (wle_alloc (fun b hb=>(h.sbd b hb).1) _)
    · exact ⟨w.heap.size,0,mu_new hlen,rfl⟩
theorem lop_alloc {T:TypeId} {d n:Nat} {mo0:Option MO} {z:List Value} [hz:TZ C.P T z] (ho:o.op=.alloc T) (hdst:o.dst=some d) (hm:σ.mem d=(n,mo0)) (h1:z.all (·.oneCell')=true) (hd:dOk C o.dst=true) :
    LOp C o σ ⟨.o (.ptr d n 0),[(d,(n+1,some (.box T (z.map fun v=>.p (.v v)))))]⟩ (fun y=>y == d):=
  lop_gen (by simp) hd hm fun τ a w G hl hm' h=>by
    have hlen:(G.μ d).length=n:=by have:=h.gens d;rw [hm' d (by simp),hm] at this;exact this
    have hzz:=hz.zero
    cases hi:C.P.info? T with
    | none=>simp [hi] at hzz
    | some i=>
      simp only [hi,Option.bind_some] at hzz
      cases hz0:i.zero with
      | none=>simp [hz0] at hzz
      | some zv=>
        simp only [hz0,Option.map_some,Option.some.injEq] at hzz
        refine ⟨.pointer (some ⟨w.heap.size,0,none⟩),w.alloc (.cells zv.cells T),(some w.heap.size,0),[w.heap.size],?_,rfl,.same,rfl,by simp,fun k hk _=>Below.heap_alloc w _ k hk,?_,?_,?_⟩
        · simp [execOp,ho,Instr.alloc,zeroValue,typeInfo,hi,hz0,newVar,newRow]
        · simp
        · refine ⟨w.heap.size,z,rfl,rfl,?_,?_⟩
          · rw [← hzz];simpa using heap_alloc_new w _
          · refine ⟨by simp,fun j c v hc hv=>?_⟩
            rw [List.getElem?_map,hv] at hc
            simp at hc;subst hc
            exact ⟨rfl,by have:=List.all_eq_true.1 h1 v (List.mem_of_getElem? hv);simpa using this⟩
        · exact ⟨w.heap.size,0,mu_new hlen,rfl⟩
theorem run_storeVar {P:Program} {T:TypeId} {k:TK} {sz by_:Nat} (hT:TI P T k sz by_) {w:World} {b off:Nat} {arr:List Value} {ty:TypeId} (h:w.heap[b]?=some (.cells arr.toArray ty (0,0))) {v:Value}
    (hl:off+sz≤arr.length) (hs:v.cells.size=sz) (h1:∀ u∈v.cells.toList,u.oneCell'=true) :
    (storeVar T ⟨b,off,none⟩ v).run P w=.ok () (w.setRow b (arr.take off++v.cells.toList++arr.drop (off+sz)).toArray):=by
  have hst:=run_storeCells_at P b off ty v.cells.toList 0 arr.toArray w h (by simp;omega) h1
  simp only [Nat.add_zero,Array.length_toList,hs] at hst
  simp [storeVar,hT.run_sizeOf,hs,hst]
theorem setRow_frame {w:World} {b:Nat} {cs:Array Value}:(w.setRow b cs).os=w.os∧TL (w.setRow b cs) w∧(w.setRow b cs).output=w.output∧w.heap.size=(w.setRow b cs).heap.size:=
  ⟨rfl,.same,rfl,by simp⟩
theorem lop_store {T:TypeId} {x y:Operand} {k:TK} {sz by_:Nat} [hT:TI C.P T k sz by_] {ob g off n:Nat} {ty:TypeId} {cs:List AC} {s:SV} (ho:o.op=.store T x y) (hdst:o.dst=none) (hx:σ.look x=.o (.ptr ob g off)) (hy:σ.look y=.s s)
    (hm:σ.mem ob=(n,some (.box ty cs))) (hn:n=g+1) (hl:off+sz≤cs.length) (hs:s.cells.length=sz) :
    LOp C o σ ⟨.un,[(ob,(n,some (.box ty (cs.take off++s.cells++cs.drop (off+sz)))))]⟩ (fun z=>z == ob):=
  lop_same (by simp) (by rw [hdst];rfl) hm fun τ a w G g' m hl' hm' h hn' hmm hh=>by
    obtain rfl:g=g':=by omega
    obtain ⟨b,c,h1,h2⟩:=look_of h ((hl' x (by simp [ho,Op.operands])).trans hx)
    have h3:s.holds G.μ ⟨w,G.S⟩ (a.eval y):=look_of h ((hl' y (by simp [ho,Op.operands])).trans hy)
    obtain ⟨b',arr,h4,h5,h6,h7⟩:=hh
    rw [h1] at hmm;obtain rfl:=Option.some.inj hmm
    simp only [Option.some.injEq] at h4;subst h4
    have h8:=h3.cells
    have hvs:(a.eval y).cells.size=sz:=by have:=h8.1;rw [hs] at this;simpa using this.symm
    have h9:∀ u∈(a.eval y).cells.toList,u.oneCell'=true:=fun u hu=>by
      obtain ⟨i,hi,hu'⟩:=List.mem_iff_getElem.1 hu
      have hi':i < s.cells.length:=by rw [h8.1];exact hi
      exact (h8.2 i s.cells[i] u (by simp [hi']) (by rw [← hu'];exact List.getElem?_eq_getElem _)).one
    have hr:=run_storeVar hT h6 (off:=off) (v:=a.eval y) (by rw [← h7.1];exact hl) hvs h9
    have hle:Wd.le ⟨w,G.S⟩ ⟨w.setRow b (arr.take off++(a.eval y).cells.toList++arr.drop (off+sz)).toArray,G.S⟩:=fun k hk=>
      ⟨hk,setRow_other w b k _ fun e=>h.stab ob b (by rw [h5];simp) (e ▸ hk)⟩
    refine ⟨.skip,undef,w.setRow b (arr.take off++(a.eval y).cells.toList++arr.drop (off+sz)).toArray,?_,.inr ⟨rfl,rfl⟩,setRow_frame.1,setRow_frame.2.1,setRow_frame.2.2.1,setRow_frame.2.2.2,
      fun k _ hk=>setRow_other w b k _ fun e=>hk (by rw [h5,e];simp),⟨b,_,rfl,h5,setRow_heap w b _ _ ty _ h6,?_⟩,trivial⟩
    · simp only [execOp,ho,h2,Instr.storeAt,Instr.sureAddr,Sem.run_bind,Sem.run_pure,Result.andThen_ok,hr]
    · exact (((h7.take off).append h8).append (h7.drop (off+sz))).mono fun _ _ k=>k.mono (Mu.le.refl _) hle
theorem lop_store_one {T:TypeId} {x y:Operand} {k:TK} {sz by_:Nat} [hT:TI C.P T k sz by_] {ob g off n:Nat} {ty:TypeId} {cs:List AC} {c:AC} (ho:o.op=.store T x y) (hdst:o.dst=none) (hx:σ.look x=.o (.ptr ob g off)) (hy:σ.look y=.o c)
    (hm:σ.mem ob=(n,some (.box ty cs))) (hn:n=g+1) (hl:off < cs.length) (hs:sz=1) :
    LOp C o σ ⟨.un,[(ob,(n,some (.box ty (cs.set off c))))]⟩ (fun z=>z == ob):=by
  have:=lop_store (o:=o) (hT:=hT) (s:=.one c) ho hdst hx hy hm hn (by omega) (by simp [SV.cells,hs])
  simp only [SV.cells,hs] at this
  simpa [List.set_eq_take_append_cons_drop,hl] using this
theorem lop_store_all {T:TypeId} {x y:Operand} {k:TK} {sz by_:Nat} [hT:TI C.P T k sz by_] {ob g n:Nat} {ty:TypeId} {cs ds:List AC} (ho:o.op=.store T x y) (hdst:o.dst=none) (hx:σ.look x=.o (.ptr ob g 0)) (hy:σ.look y=.a ds)
    (hm:σ.mem ob=(n,some (.box ty cs))) (hn:n=g+1) (hl:cs.length=sz) (hs:ds.length=sz) :
    LOp C o σ ⟨.un,[(ob,(n,some (.box ty ds)))]⟩ (fun z=>z == ob):=by
  have:=lop_store (o:=o) (hT:=hT) (s:=.agg ds) ho hdst hx hy hm hn (by omega) (by simp [SV.cells,hs])
  simpa [SV.cells,List.drop_of_length_le (Nat.le_of_eq hl)] using this
/-! ### Structs, arrays and slices written out -/
def bfill (place:Nat→Option (Nat × Nat)) (cells:List AC):List (Nat × List AC)→Option (List AC)
  | []=>some cells
  | (i,v)::rest=>match place i with
    | none=>none
    | some (off,size)=>if v.length=size∧off+size≤cells.length then bfill place (cells.take off++v++cells.drop (off+size)) rest else none
theorem foldl_set (vs:List Value):∀ (off:Nat) (arr:Array Value),off+vs.length≤arr.size→
    ((vs.zipIdx 0).foldl (fun cs (p:Value × Nat)=>cs.setIfInBounds (off+p.2) p.1) arr).toList=arr.toList.take off++vs++arr.toList.drop (off+vs.length):=by
  suffices h:∀ (vs:List Value) (k off:Nat) (arr:Array Value),off+k+vs.length≤arr.size→
      ((vs.zipIdx k).foldl (fun cs (p:Value × Nat)=>cs.setIfInBounds (off+p.2) p.1) arr).toList=arr.toList.take (off+k)++vs++arr.toList.drop (off+k+vs.length) by
    intro off arr hl;simpa using h vs 0 off arr (by simpa using hl)
  intro vs
  induction vs with
  | nil=>intro k off arr hl;simp
  | cons v vs ih=>
    intro k off arr hl
    simp only [List.length_cons] at hl
    simp only [List.zipIdx_cons,List.foldl_cons]
    rw [ih (k+1) off _ (by simp;omega)]
    simp only [Array.toList_setIfInBounds,List.length_cons]
    have h1:(arr.toList.set (off+k) v).take (off+(k+1))=arr.toList.take (off+k)++[v]:=by
      rw [show off+(k+1)=off+k+1 from by omega,List.take_succ_eq_append_getElem (by simp;omega)]
      simp [List.take_set_of_le]
    have h2:(arr.toList.set (off+k) v).drop (off+(k+1)+vs.length)=arr.toList.drop (off+k+(vs.length+1)):=by
      rw [List.drop_set_of_lt (by omega)];congr 1;omega
    rw [h1,h2];simp
theorem fill_run {μ:Mu} {X:Wd} {place:Nat→Option (Nat × Nat)}:∀ {parts:List (Nat × List AC)} {vs:List (Nat × Value)} {cells:List AC} {arr:Array Value} {out:List AC},
    All2 (fun (p:Nat × List AC) (v:Nat × Value)=>p.1=v.1∧All2 (AC.holds μ X) p.2 v.2.cells.toList) parts vs→All2 (AC.holds μ X) cells arr.toList→bfill place cells parts=some out→
    ∃ arr',Instr.fill place arr vs=some arr'∧All2 (AC.holds μ X) out arr'.toList
  | [],vs,cells,arr,out,hp,hc,hb=>by
    obtain rfl:=hp.nil_inv
    simp [bfill] at hb;subst hb
    exact ⟨arr,rfl,hc⟩
  | (i,p)::parts,vs,cells,arr,out,hp,hc,hb=>by
    obtain ⟨⟨i',v⟩,vs',rfl,⟨h1,h2⟩,h3⟩:=hp.cons_inv
    simp only at h1 h2;subst h1
    simp only [bfill] at hb
    cases hpl:place i with
    | none=>simp [hpl] at hb
    | some os=>
      obtain ⟨off,size⟩:=os
      simp only [hpl] at hb
      split at hb
      · rename_i hcond
        have hvl:v.cells.size=size:=by have:=h2.1;rw [hcond.1] at this;simpa using this.symm
        have hal:off+v.cells.size≤arr.size:=by have:=hc.1;simp at this;omega
        have hf:=foldl_set v.cells.toList off arr (by simpa using hal)
        have hnew:All2 (AC.holds μ X) (cells.take off++p++cells.drop (off+size)) (v.cells.zipIdx.foldl (fun cs (c,j)=>cs.setIfInBounds (off+j) c) arr).toList:=by
          have e:v.cells.zipIdx.foldl (fun cs (c,j)=>cs.setIfInBounds (off+j) c) arr=(v.cells.toList.zipIdx 0).foldl (fun cs (p:Value × Nat)=>cs.setIfInBounds (off+p.2) p.1) arr:=by
            rw [← Array.foldl_toList,Array.toList_zipIdx]
          rw [e,hf]
          have hvl':v.cells.toList.length=size:=by simpa using hvl
          rw [hvl']
          exact ((hc.take off).append h2).append (hc.drop (off+size))
        obtain ⟨arr',h4,h5⟩:=fill_run (place:=place) h3 hnew hb
        refine ⟨arr',?_,h5⟩
        simp only [Instr.fill,hpl]
        rw [if_neg (by simp [hvl];omega)]
        exact h4
      · cases hb
theorem parts_hold {τ:St} {a:Act} {w:World} {G:Gh} (h:RelG C τ a w G) {parts:List (Nat × Operand)} {ps:List (Nat × List AC)} (hp:All2 (fun (x:Nat × Operand) (p:Nat × List AC)=>x.1=p.1∧∃ s,τ.look x.2=.s s∧s.cells=p.2) parts ps) :
    All2 (fun (p:Nat × List AC) (v:Nat × Value)=>p.1=v.1∧All2 (AC.holds G.μ ⟨w,G.S⟩) p.2 v.2.cells.toList) ps (parts.map fun (i,x)=>(i,a.eval x)):=by
  refine ⟨by simp [hp.1],fun i p v hpi hv=>?_⟩
  rw [List.getElem?_map] at hv
  cases hx:parts[i]? with
  | none=>rw [hx] at hv;cases hv
  | some x=>
    rw [hx] at hv;simp at hv;subst hv
    obtain ⟨h1,s,h2,h3⟩:=hp.2 i x p hx hpi
    have h4:s.holds G.μ ⟨w,G.S⟩ (a.eval x.2):=look_of h h2
    exact ⟨h1.symm,h3 ▸ h4.cells⟩
class TF (P:Program) (T:TypeId) (fs:outParam (List (Nat × Nat))):Prop where
  fields:(match P.underlying T with|some (.struct fields)=>fields.toList.mapM (fun f=>(P.info? f.type).map fun i=>(f.offset,i.size))|_=>none)=some fs
theorem build_go {T:TypeId} {parts:Array (Nat × Operand)} {place:Nat→Option (Nat × Nat)} {z:List Value} [hz:TZ C.P T z] {ps:List (Nat × List AC)} {cs:List AC} (ho:o.op=.build T parts)
    (hbt:∀ (zv:Value) (i:TypeInfo) l,C.P.info? T=some i→i.zero=some zv→C.P.built T l=Instr.fill place zv.cells l)
    (hp:All2 (fun (x:Nat × Operand) (p:Nat × List AC)=>x.1=p.1∧∃ s,σ.look x.2=.s s∧s.cells=p.2) parts.toList ps) (h1:z.all (·.oneCell')=true)
    (hb:bfill place (z.map fun v=>.p (.v v)) ps=some cs) (hd:dOk C o.dst=true):LOp C o σ ⟨.a cs,[]⟩ (fun _=>false):=
  lop_val hd fun τ a w G hl hm' h=>by
    have hzz:=hz.zero
    cases hi:C.P.info? T with
    | none=>simp [hi] at hzz
    | some i=>
      simp only [hi,Option.bind_some] at hzz
      cases hz0:i.zero with
      | none=>simp [hz0] at hzz
      | some zv=>
        simp only [hz0,Option.map_some,Option.some.injEq] at hzz
        have hp':All2 (fun (x:Nat × Operand) (p:Nat × List AC)=>x.1=p.1∧∃ s,τ.look x.2=.s s∧s.cells=p.2) parts.toList ps:=by
          refine ⟨hp.1,fun j x p hx hpp=>?_⟩
          obtain ⟨k1,s,k2,k3⟩:=hp.2 j x p hx hpp
          refine ⟨k1,s,?_,k3⟩
          rw [hl x.2 ?_];exact k2
          simp only [ho,Op.operands,List.mem_toArray,List.mem_map]
          exact ⟨x,List.mem_of_getElem? hx,rfl⟩
        have hph:=parts_hold h hp'
        have hzh:All2 (AC.holds G.μ ⟨w,G.S⟩) (z.map fun v=>.p (.v v)) zv.cells.toList:=by
          rw [hzz]
          refine ⟨by simp,fun j c v hc hv=>?_⟩
          rw [List.getElem?_map,hv] at hc
          simp at hc;subst hc
          exact ⟨rfl,by have:=List.all_eq_true.1 h1 v (List.mem_of_getElem? hv);simpa using this⟩
        obtain ⟨arr',h4,h5⟩:=fill_run hph hzh hb
        have hparts:(parts.map fun (i,x)=>(i,a.eval x)).toList=parts.toList.map fun (i,x)=>(i,a.eval x):=by simp
        have hbu:=run_build (P:=C.P) w T (parts.map fun (i,x)=>(i,a.eval x)) arr' (by rw [hbt zv i _ hi hz0,hparts];exact h4)
        refine ⟨.agg arr',?_,arr'.toList,by simp,h5⟩
        simp only [execOp,ho,Sem.run_bind,hbu,Result.andThen_ok,Sem.run_pure]
theorem lop_build {T:TypeId} {parts:Array (Nat × Operand)} {fs:List (Nat × Nat)} [hF:TF C.P T fs] {z:List Value} [hz:TZ C.P T z] {ps:List (Nat × List AC)} {cs:List AC} (ho:o.op=.build T parts)
    (hp:All2 (fun (x:Nat × Operand) (p:Nat × List AC)=>x.1=p.1∧∃ s,σ.look x.2=.s s∧s.cells=p.2) parts.toList ps) (h1:z.all (·.oneCell')=true)
    (hb:bfill (fun i=>fs[i]?) (z.map fun v=>.p (.v v)) ps=some cs) (hd:dOk C o.dst=true):LOp C o σ ⟨.a cs,[]⟩ (fun _=>false):=
  build_go ho (fun zv i l hi hz0=>by
    have hf:=hF.fields
    cases hu:C.P.underlying T with
    | none=>simp [hu] at hf
    | some d=>
      cases d<;>simp only [hu] at hf<;>try (cases hf;done)
      unfold Program.built
      simp only [hi,hu,hz0,hf]
      congr 1;funext i;simp) hp h1 hb hd
theorem lop_build_arr {T e:TypeId} {parts:Array (Nat × Operand)} {n sz by_:Nat} [hT:TI C.P T (.array n e) sz by_] {ke:TK} {sze be:Nat} [he:TI C.P e ke sze be] {z:List Value} [hz:TZ C.P T z] {ps:List (Nat × List AC)} {cs:List AC} (ho:o.op=.build T parts)
    (hp:All2 (fun (x:Nat × Operand) (p:Nat × List AC)=>x.1=p.1∧∃ s,σ.look x.2=.s s∧s.cells=p.2) parts.toList ps) (h1:z.all (·.oneCell')=true)
    (hb:bfill (fun i=>some (i * sze,sze)) (z.map fun v=>.p (.v v)) ps=some cs) (hd:dOk C o.dst=true):LOp C o σ ⟨.a cs,[]⟩ (fun _=>false):=
  build_go ho (fun zv i l hi hz0=>by
    obtain ⟨d,hdd,hkk⟩:=hT.undd
    have:d=.array n e:=by cases d<;>simp [TK.of] at hkk;rw [hkk.1,hkk.2]
    subst this
    obtain ⟨ie,h7,h8,_⟩:=he.infoo
    unfold Program.built
    simp only [hi,hdd,hz0,h7,h8]) hp h1 hb hd
def rowsOf (ps:List (Nat × List PVal)):List (List PVal):=ps.map (·.2)
theorem fill_slice {X:Wd} {μ:Mu} (es:Nat):∀ (ps:List (Nat × List PVal)) (vs:List (Nat × Value)) (k:Nat) (arr:Array Value),
    All2 (fun (p:Nat × List PVal) (v:Nat × Value)=>p.1=v.1∧p.2.length=es∧All2 (fun (q:PVal) u=>q.holds X u) p.2 v.2.cells.toList) ps vs→(∀ i p,ps[i]?=some p→p.1=k+i)→(k+ps.length) * es≤arr.size→
    ∃ arr',Instr.fill (fun i=>some (i * es,es)) arr vs=some arr'∧arr'.size=arr.size∧(∀ j,j < k * es→arr'[j]?=arr[j]?)∧
      ∀ i p,ps[i]?=some p→∀ j q,p.2[j]?=some q→∃ u,arr'[(k+i) * es+j]?=some u∧q.holds X u
  | [],vs,k,arr,hp,_,_=>by
    obtain rfl:=hp.nil_inv
    exact ⟨arr,rfl,rfl,fun _ _=>rfl,fun i p h=>by simp at h⟩
  | (i0,p)::ps,vs,k,arr,hp,hi,hl=>by
    obtain ⟨⟨i',v⟩,vs',rfl,⟨h1,h2,h2'⟩,h3⟩:=hp.cons_inv
    simp only at h1 h2 h2'
    have hk:i0=k:=by have:=hi 0 (i0,p) rfl;simpa using this
    subst hk;subst h1
    have hvl:v.cells.size=es:=by have:=h2'.1;rw [h2] at this;simpa using this.symm
    simp only [List.length_cons] at hl
    have hke:i0 * es+es≤arr.size:=by
      have:(i0+(ps.length+1)) * es=i0 * es+es+ps.length * es:=by rw [show i0+(ps.length+1)=i0+1+ps.length from by omega,Nat.add_mul,Nat.add_mul];omega
      omega
    have hf:=foldl_set v.cells.toList (i0 * es) arr (by simp [hvl];omega)
    have e:v.cells.zipIdx.foldl (fun cs (c,j)=>cs.setIfInBounds (i0 * es+j) c) arr=(v.cells.toList.zipIdx 0).foldl (fun cs (p:Value × Nat)=>cs.setIfInBounds (i0 * es+p.2) p.1) arr:=by
      rw [← Array.foldl_toList,Array.toList_zipIdx]
    generalize hA:v.cells.zipIdx.foldl (fun cs (c,j)=>cs.setIfInBounds (i0 * es+j) c) arr=A at *
    rw [← e] at hf
    have hvl':v.cells.toList.length=es:=by simpa using hvl
    rw [hvl'] at hf
    have hAs:A.size=arr.size:=by
      have:=congrArg List.length hf
      simp [hvl] at this;omega
    have hAget:∀ (j:Nat),A[j]?=(arr.toList.take (i0 * es)++v.cells.toList++arr.toList.drop (i0 * es+es))[j]?:=fun j=>by rw [← hf];simp
    have hroom:(i0+1+ps.length) * es≤A.size:=by
      rw [hAs,show i0+1+ps.length=i0+(ps.length+1) from by omega];exact hl
    obtain ⟨arr',h4,h5,h6,h7⟩:=fill_slice (X:=X) (μ:=μ) es ps vs' (i0+1) A h3 (fun i q hq=>by have:=hi (i+1) q (by simpa using hq);omega) hroom
    have htl:(arr.toList.take (i0 * es)).length=i0 * es:=by simp;omega
    refine ⟨arr',?_,h5.trans hAs,fun j hj=>?_,fun i q hq j r hr=>?_⟩
    · simp only [Instr.fill]
      rw [if_neg (by simp [hvl];omega),hA]
      exact h4
    · rw [h6 j (by rw [Nat.add_mul];omega),hAget j,List.append_assoc,List.getElem?_append_left (by rw [htl];exact hj),List.getElem?_take,if_pos hj]
      simp
    · cases i with
      | zero=>
        simp at hq;subst hq
        obtain ⟨u,hu,hru⟩:=h2'.get hr
        have hjlt:j < es:=by rw [← h2];exact (List.getElem?_eq_some_iff.1 hr).1
        refine ⟨u,?_,hru⟩
        simp only [Nat.add_zero]
        rw [h6 _ (by rw [Nat.add_mul];omega),hAget,List.append_assoc,List.getElem?_append_right (by rw [htl];omega),htl,List.getElem?_append_left (by rw [hvl'];omega)]
        rw [show i0 * es+j - i0 * es=j from by omega];exact hu
      | succ i=>
        have:=h7 i q (by simpa using hq) j r hr
        rw [show i0+(i+1)=i0+1+i from by omega];exact this
theorem lop_buildSlice {T e:TypeId} {n:Nat} {parts:Array (Nat × Operand)} {sz by_:Nat} [hT:TI C.P T (.slice e) sz by_] {ke:TK} {sze be:Nat} [he:TI C.P e ke sze be] {z:List Value} [hz:TZ C.P e z] {ps:List (Nat × List PVal)} (ho:o.op=.buildSlice T n parts)
    (hp:All2 (fun (x:Nat × Operand) (p:Nat × List PVal)=>x.1=p.1∧p.2.length=sze∧∃ s,σ.look x.2=.s s∧s.cells=p.2.map .p) parts.toList ps)
    (hi:ps.map (·.1)=List.range n) (hz0:0 < sze) (hsmall:n * sze≤2 ^ 24) (hd:dOk C o.dst=true):LOp C o σ ⟨.p (.sl sze (rowsOf ps) true),[]⟩ (fun _=>false):=
  lop_grow hd fun τ a w G hl hm' h=>by
    have hzz:=hz.zero
    cases hie:C.P.info? e with
    | none=>simp [hie] at hzz
    | some i=>
      simp only [hie,Option.bind_some] at hzz
      cases hz0':i.zero with
      | none=>simp [hz0'] at hzz
      | some zv=>
        obtain ⟨d,hdd,hkk⟩:=hT.undd
        have:d=.slice e:=by cases d<;>simp [TK.of] at hkk;rw [hkk]
        subst this
        have hpl:ps.length=n:=by have:=congrArg List.length hi;simpa using this
        have hidx:∀ i p,ps[i]?=some p→p.1=0+i:=fun i p hpi=>by
          have:(ps.map (·.1))[i]?=some p.1:=by rw [List.getElem?_map,hpi];rfl
          rw [hi] at this
          have hlt:i < n:=by rw [← hpl];exact (List.getElem?_eq_some_iff.1 hpi).1
          simp [hlt] at this;omega
        have hph:All2 (fun (p:Nat × List PVal) (v:Nat × Value)=>p.1=v.1∧p.2.length=sze∧All2 (fun (q:PVal) u=>q.holds ⟨w,G.S⟩ u) p.2 v.2.cells.toList) ps (parts.toList.map fun (i,x)=>(i,a.eval x)):=by
          refine ⟨by simp [← hp.1],fun j p v hpj hv=>?_⟩
          rw [List.getElem?_map] at hv
          cases hx:parts.toList[j]? with
          | none=>rw [hx] at hv;cases hv
          | some x=>
            rw [hx] at hv;simp at hv;subst hv
            obtain ⟨k1,k2,s,k3,k4⟩:=hp.2 j x p hx hpj
            have h4:s.holds G.μ ⟨w,G.S⟩ (a.eval x.2):=look_of h ((hl x.2 (by
              simp only [ho,Op.operands,List.mem_toArray,List.mem_map]
              exact ⟨x,List.mem_of_getElem? hx,rfl⟩)).trans k3)
            have h5:=h4.cells
            rw [k4] at h5
            refine ⟨k1.symm,k2,by have:=h5.1;simpa using this,fun i q u hq hu=>?_⟩
            exact h5.2 i (.p q) u (by simp [hq]) hu
        obtain ⟨arr',h4,h5,_,h7⟩:=fill_slice (X:=⟨w,G.S⟩) (μ:=G.μ) sze ps _ 0 ((Array.range (n * sze)).map (fun j=>zv.cells[j % zv.cells.size]!)) hph hidx (by simp [hpl])
        refine ⟨.slice (some ⟨w.heap.size,0,none⟩) n n,w.alloc (.cells arr' e),?_,Quiet.alloc _ _,?_⟩
        · have hparts:(parts.map fun (i,x)=>(i,a.eval x)).toList=parts.toList.map fun (i,x)=>(i,a.eval x):=by simp
          have h4':Instr.fill (fun i=>some (i * sze,sze)) ((Array.range (n * sze)).map (fun j=>(if n * sze=0 then #[] else zv.cells)[j % (if n * sze=0 then #[] else zv.cells).size]!)) (parts.map fun (i,x)=>(i,a.eval x)).toList=some arr':=by
            rw [hparts]
            by_cases hn0:n * sze=0
            · have e0:∀ f:Nat→Value,(Array.range 0).map f = #[]:=fun f=>by simp [Array.range]
              rw [hn0,e0] at h4 ⊢
              exact h4
            · simp only [hn0,if_false];exact h4
          simp only [execOp,ho,Instr.buildSlice,Sem.run_bind,run_underlying hdd,Result.andThen_ok,he.run_sizeOf]
          rw [if_neg (by omega)]
          split
          · rename_i hn0
            simp only [hn0,if_true] at h4' ⊢
            simp only [Sem.run_bind,Result.andThen_ok,Sem.run_pure,h4',newRow,run_newObj_alloc]
          · rename_i hn0
            simp only [hn0,if_false] at h4'
            have hz1:(zeroValue e).run C.P w=.ok zv w:=by simp [zeroValue,typeInfo,hie,hz0']
            simp only [Sem.run_bind,hz1,Result.andThen_ok,Sem.run_pure,h4',newRow,run_newObj_alloc]
        · refine ⟨some ⟨w.heap.size,0,none⟩,n,?_,?_,?_,?_,.inr ⟨rfl,?_,arr',e,(0,0),by simpa using heap_alloc_new w _,?_⟩⟩
          · simp [rowsOf,hpl]
          · simp [rowsOf,hpl]
          · have:n≤n * sze:=Nat.le_mul_of_pos_right n hz0
            simp only [maxLen];omega
          · simp [rowsOf,hpl]
          · simp
          · intro i row hrow
            simp only [rowsOf,List.getElem?_map] at hrow
            cases hpi:ps[i]? with
            | none=>rw [hpi] at hrow;cases hrow
            | some p=>
              rw [hpi] at hrow;simp at hrow;subst hrow
              have hi2:i < parts.toList.length:=by rw [hp.1];exact (List.getElem?_eq_some_iff.1 hpi).1
              obtain ⟨_,k2,_⟩:=hp.2 i _ p (List.getElem?_eq_getElem hi2) hpi
              refine ⟨k2,fun j q hq=>?_⟩
              obtain ⟨u,hu,hqu⟩:=h7 i p hpi j q hq
              refine ⟨u,by simpa using hu,q.mono (fun b hb=>⟨.inl hb,Below.heap_alloc w _ b (h.sbd b hb).1⟩) hqu⟩
end ops
end Go.Aw
/- THE ABSTRACT WALK, part 6: slices of slices, append, make, conversions. -/
namespace Go.Aw
open Go Go.RowKit
set_option linter.unusedVariables false
set_option linter.unusedSimpArgs false
section ops
variable {C:Ctx} {o:Oper} {σ:St}
theorem run_sb {P:Program} {k:IntKind} {i:Int} {y:Nat} {code:BoundsCode} {w:World} (h0:0≤i) (h1:i≤y):(Instr.sliceBound (.int k i) y code).run P w=.ok i.toNat w:=by
  simp [Instr.sliceBound,asIntOf,h0,h1]
theorem slice_go {T e:TypeId} {x:Operand} {lo hi mx:Option Operand} {sz by_:Nat} [hT:TI C.P T (.slice e) sz by_] {ke:TK} {sze be:Nat} [he:TI C.P e ke sze be] {rows:List (List PVal)} {ex ex':Bool} {l h:Nat} (vlo vhi vmx:Option (IntKind × Int))
    (ho:o.op=.slice T x lo hi mx) (hx:σ.look x=.p (.sl sze rows ex)) (hlo:lo.map σ.look=vlo.map fun p=>.p (.v (.int p.1 p.2))) (hhi:hi.map σ.look=vhi.map fun p=>.p (.v (.int p.1 p.2))) (hmx:mx.map σ.look=vmx.map fun p=>.p (.v (.int p.1 p.2)))
    (hb:∀ cap w,rows.length≤cap→(ex=true→cap=rows.length)→∃ m,(Instr.sliceBounds true rows.length cap (vlo.map fun p=>.int p.1 p.2) (vhi.map fun p=>.int p.1 p.2) (vmx.map fun p=>.int p.1 p.2)).run C.P w=.ok (l,h,m) w∧l≤h∧h≤m∧m≤cap∧(ex'=true→m=h))
    (hh:h≤rows.length) (hd:dOk C o.dst=true):LOp C o σ ⟨.p (.sl sze ((rows.drop l).take (h - l)) ex'),[]⟩ (fun _=>false):=
  lop_val hd fun τ a w G hl hm' hr=>by
    obtain ⟨base,cap,h1,h2,h3,h4,h5⟩:=look_of hr ((hl x (by simp [ho,Op.operands])).trans hx)
    have opt:∀ (q:Option Operand) (v:Option (IntKind × Int)),(∀ y,q=some y→y∈o.op.operands)→q.map σ.look=v.map (fun p=>AV.p (.v (.int p.1 p.2)))→q.map a.eval=v.map fun p=>Value.int p.1 p.2:=fun q v hq hv=>by
      cases q with
      | none=>cases v<;>simp_all
      | some y=>
        cases v with
        | none=>simp at hv
        | some p=>
          simp only [Option.map_some,Option.some.injEq] at hv ⊢
          exact val_of hr ((hl y (hq y rfl)).trans hv)
    have e1:=opt lo vlo (fun y hy=>by subst hy;simp [ho,Op.operands]) hlo
    have e2:=opt hi vhi (fun y hy=>by subst hy;simp [ho,Op.operands]) hhi
    have e3:=opt mx vmx (fun y hy=>by subst hy;simp [ho,Op.operands]) hmx
    obtain ⟨d,hdd,hkk⟩:=hT.undd
    have:d=.slice e:=by cases d<;>simp [TK.of] at hkk;rw [hkk]
    subst this
    obtain ⟨m,hm,hlh,hhm,hmc,hex⟩:=hb cap w h2 h4
    refine ⟨.slice (if m=l then base else base.map (·.add (l * sze))) (h - l) (m - l),?_,?_⟩
    · simp only [execOp,ho,Instr.sliceAt,Sem.run_bind,run_underlying hdd,Result.andThen_ok,Instr.slice,h1,e1,e2,e3,hm,he.run_sizeOf,Sem.run_pure]
    · have hlen:((rows.drop l).take (h - l)).length=h - l:=by simp;omega
      refine ⟨if m=l then base else base.map (·.add (l * sze)),m - l,by rw [hlen],by rw [hlen];omega,by omega,fun hq=>by rw [hlen,hex hq],?_⟩
      by_cases hml:m=l
      · have hnil:(rows.drop l).take (h - l)=[]:=List.eq_nil_of_length_eq_zero (by rw [hlen];omega)
        simp only [hml,if_true]
        cases base with
        | none=>exact ⟨by rw [← hml] at hnil ⊢;exact hnil,by omega⟩
        | some ad=>
          exact .inl hnil
      · simp only [hml,if_false]
        cases base with
        | none=>
          simp only [Option.map_none]
          obtain ⟨k1,k2⟩:=h5
          exact ⟨by simp [k1],by omega⟩
        | some ad=>
          rcases h5 with h5 | ⟨g1,g2,cs,ty,fr,g3,g4⟩
          · exact .inl (by simp [h5])
          simp only [Option.map_some,add_addr' ad g1]
          refine .inr ⟨by first|rfl|trivial,g2,cs,ty,fr,g3,fun i row hrow=>?_⟩
          have hrow':rows[l+i]?=some row:=by
            rw [List.getElem?_take] at hrow
            split at hrow
            · simpa using hrow
            · cases hrow
          refine ⟨(g4 _ _ hrow').1,fun j p hp=>?_⟩
          obtain ⟨c,hc,hcc⟩:=(g4 _ _ hrow').2 j p hp
          exact ⟨c,by rw [← hc];congr 1;simp only [Nat.add_mul];omega,hcc⟩
section
variable {T e:TypeId} {x:Operand} {sz by_:Nat} [hT:TI C.P T (.slice e) sz by_] {ke:TK} {sze be:Nat} [he:TI C.P e ke sze be] {rows:List (List PVal)} {ex:Bool} {kl kh km:IntKind} {l h m:Int} {xl xh xm:Operand}
include hT he
theorem lop_slice_l (ho:o.op=.slice T x (some xl) none none) (hx:σ.look x=.p (.sl sze rows ex)) (hlo:σ.look xl=.p (.v (.int kl l))) (h0:0≤l) (h1:l≤rows.length) (hd:dOk C o.dst=true):LOp C o σ ⟨.p (.sl sze (rows.drop l.toNat) ex),[]⟩ (fun _=>false):=by
  have:=slice_go (o:=o) (hT:=hT) (he:=he) (σ:=σ) (rows:=rows) (ex:=ex) (ex':=ex) (l:=l.toNat) (h:=rows.length) (some (kl,l)) none none ho hx (by simp [hlo]) rfl rfl
    (fun cap w hc he'=>⟨cap,by simp [Instr.sliceBounds,run_sb h0 h1],by omega,hc,Nat.le_refl _,he'⟩) (Nat.le_refl _) hd
  rwa [List.take_of_length_le (by simp)] at this
theorem lop_slice_h (ho:o.op=.slice T x none (some xh) none) (hx:σ.look x=.p (.sl sze rows ex)) (hhi:σ.look xh=.p (.v (.int kh h))) (h0:0≤h) (h1:h≤rows.length) (hd:dOk C o.dst=true):LOp C o σ ⟨.p (.sl sze (rows.take h.toNat) false),[]⟩ (fun _=>false):=by
  have:=slice_go (o:=o) (hT:=hT) (he:=he) (σ:=σ) (rows:=rows) (ex:=ex) (ex':=false) (l:=0) (h:=h.toNat) none (some (kh,h)) none ho hx rfl (by simp [hhi]) rfl
    (fun cap w hc he'=>⟨cap,by simp [Instr.sliceBounds,run_sb (y:=cap) h0 (by omega)],by omega,by omega,Nat.le_refl _,by simp⟩) (by omega) hd
  simpa using this
theorem lop_slice_lh (ho:o.op=.slice T x (some xl) (some xh) none) (hx:σ.look x=.p (.sl sze rows ex)) (hlo:σ.look xl=.p (.v (.int kl l))) (hhi:σ.look xh=.p (.v (.int kh h))) (h0:0≤l) (h01:l≤h) (h1:h≤rows.length) (hd:dOk C o.dst=true) :
    LOp C o σ ⟨.p (.sl sze ((rows.drop l.toNat).take (h.toNat - l.toNat)) false),[]⟩ (fun _=>false):=
  slice_go (o:=o) (hT:=hT) (he:=he) (σ:=σ) (rows:=rows) (ex:=ex) (ex':=false) (l:=l.toNat) (h:=h.toNat) (some (kl,l)) (some (kh,h)) none ho hx (by simp [hlo]) (by simp [hhi]) rfl
    (fun cap w hc he'=>⟨cap,by simp [Instr.sliceBounds,run_sb (y:=cap) (i:=h) (by omega) (by omega),run_sb (y:=h.toNat) h0 (by omega)],by omega,by omega,Nat.le_refl _,by simp⟩) (by omega) hd
theorem lop_slice_hm (ho:o.op=.slice T x none (some xh) (some xm)) (hx:σ.look x=.p (.sl sze rows ex)) (hhi:σ.look xh=.p (.v (.int kh h))) (hmx:σ.look xm=.p (.v (.int km m))) (h0:0≤h) (hm:m=h) (h1:h≤rows.length) (hd:dOk C o.dst=true) :
    LOp C o σ ⟨.p (.sl sze (rows.take h.toNat) true),[]⟩ (fun _=>false):=by
  subst hm
  have:=slice_go (o:=o) (hT:=hT) (he:=he) (σ:=σ) (rows:=rows) (ex:=ex) (ex':=true) (l:=0) (h:=m.toNat) none (some (kh,m)) (some (km,m)) ho hx rfl (by simp [hhi]) (by simp [hmx])
    (fun cap w hc he'=>⟨m.toNat,by simp [Instr.sliceBounds,run_sb (y:=cap) h0 (by omega),run_sb (y:=m.toNat) h0 (by omega)],by omega,by omega,by omega,by simp⟩) (by omega) hd
  simpa using this
theorem lop_slice_lhm (ho:o.op=.slice T x (some xl) (some xh) (some xm)) (hx:σ.look x=.p (.sl sze rows ex)) (hlo:σ.look xl=.p (.v (.int kl l))) (hhi:σ.look xh=.p (.v (.int kh h))) (hmx:σ.look xm=.p (.v (.int km m))) (h0:0≤l) (h01:l≤h) (hm:m=h) (h1:h≤rows.length) (hd:dOk C o.dst=true) :
    LOp C o σ ⟨.p (.sl sze ((rows.drop l.toNat).take (h.toNat - l.toNat)) true),[]⟩ (fun _=>false):=by
  subst hm
  exact slice_go (o:=o) (hT:=hT) (he:=he) (σ:=σ) (rows:=rows) (ex:=ex) (ex':=true) (l:=l.toNat) (h:=m.toNat) (some (kl,l)) (some (kh,m)) (some (km,m)) ho hx (by simp [hlo]) (by simp [hhi]) (by simp [hmx])
    (fun cap w hc he'=>⟨m.toNat,by simp [Instr.sliceBounds,run_sb (y:=cap) (i:=m) (by omega) (by omega),run_sb (y:=m.toNat) (i:=m) (by omega) (by omega),run_sb (y:=m.toNat) h0 (by omega)],by omega,by omega,by omega,by simp⟩) (by omega) hd
end
/-! ### Append -/
def SrcOk (C:Ctx) (σ:St) (x:Operand) (es:Nat) (rows:List (List PVal)) (ro:Nat→Bool):Prop:=
  ∀ τ a w G,τ.look x=σ.look x→(∀ y,ro y=true→τ.mem y=σ.mem y)→RelG C τ a w G→
    ∃ base cap,a.eval x=.slice base rows.length cap∧match base with
      | none=>rows=[]
      | some ad=>∀ i row,rows[i]?=some row→row.length=es∧∀ j p,row[j]?=some p→∃ c,w.cell? (ad.add (i * es+j))=some c∧p.holds ⟨w,G.S⟩ c
theorem cell_at {w:World} {ad:Addr} (ha:ad.spot=none) {cs:Array Value} {ty:TypeId} {fr:Nat × Nat} (hg:w.heap[ad.block]?=some (.cells cs ty fr)) (n:Nat):w.cell? (ad.add n)=cs[ad.off+n]?:=by
  rw [add_addr' ad ha,cell_of_row w _ _ _ _ _ hg]
theorem src_sl {x:Operand} {es:Nat} {rows:List (List PVal)} {ex:Bool} (hx:σ.look x=.p (.sl es rows ex)):SrcOk C σ x es rows (fun _=>false):=fun τ a w G h1 h2 h=>by
  obtain ⟨base,cap,k1,k2,k3,k4,k5⟩:=look_of h (h1.trans hx)
  refine ⟨base,cap,k1,?_⟩
  cases base with
  | none=>exact k5.1
  | some ad=>
    rcases k5 with k5 | ⟨g1,g2,cs,ty,fr,g3,g4⟩
    · intro i row hr;rw [k5] at hr;simp at hr
    refine fun i row hr=>⟨(g4 i row hr).1,fun j p hp=>?_⟩
    obtain ⟨c,hc,hh⟩:=(g4 i row hr).2 j p hp
    exact ⟨c,by rw [cell_at g1 g3,← hc];congr 1;omega,hh⟩
theorem src_osl {x:Operand} {ob g es lo len n ty:Nat} {rows:List (List PVal)} (hx:σ.look x=.o (.osl ob g es lo len)) (hm:σ.mem ob=(n,some (.buf ty es rows))) (hn:n=g+1) (hl:lo+len≤rows.length) :
    SrcOk C σ x es ((rows.drop lo).take len) (fun y=>y == ob):=fun τ a w G h1 h2 h=>by
  subst hn
  obtain ⟨m,c,k1,k2,k3⟩:=look_of h (h1.trans hx)
  obtain ⟨g',m',hg,hmm,hes,hmax,hlen,hh⟩:=h.mem ob _ _ (by rw [h2 ob (by simp)];exact hm)
  obtain rfl:g=g':=by omega
  rw [k1] at hmm;obtain rfl:=Option.some.inj hmm
  have hln:((rows.drop lo).take len).length=len:=by simp;omega
  refine ⟨m.map fun b=>⟨b,lo * es,none⟩,c - lo,by rw [hln];exact k3,?_⟩
  rcases hh with ⟨h3,h4,h5⟩ | ⟨b,arr,h3,h4,h5,h6,h7⟩
  · simp only at h3 h4 hlen
    subst h3
    simp only [Option.map_none]
    exact List.eq_nil_of_length_eq_zero (by rw [hln];omega)
  · simp only at h3;subst h3
    simp only [Option.map_some]
    intro i row hr
    have hr':rows[lo+i]?=some row:=by
      rw [List.getElem?_take] at hr
      split at hr
      · simpa using hr
      · cases hr
    refine ⟨(h7 _ _ hr').1,fun j p hp=>?_⟩
    obtain ⟨u,hu,hpu⟩:=(h7 _ _ hr').2 j p hp
    exact ⟨u,by rw [cell_at rfl h5,← hu];congr 1;simp only [Nat.add_mul];omega,hpu⟩
theorem src_asl {x:Operand} {ob g off len cap n:Nat} {ty:TypeId} {cs:List AC} {rows:List (List PVal)} {es:Nat} (hx:σ.look x=.o (.asl ob g off len cap)) (hm:σ.mem ob=(n,some (.box ty cs))) (hn:n=g+1)
    (hlen:rows.length=len) (hr:∀ i row,rows[i]?=some row→row.length=es∧∀ j p,row[j]?=some p→cs[off+i * es+j]?=some (.p p)):SrcOk C σ x es rows (fun y=>y == ob):=fun τ a w G h1 h2 h=>by
  subst hn
  obtain ⟨b,c,k1,k2⟩:=look_of h (h1.trans hx)
  obtain ⟨g',m',hg,hmm,b',arr,h4,h5,h6,h7⟩:=h.mem ob _ _ (by rw [h2 ob (by simp)];exact hm)
  obtain rfl:g=g':=by omega
  rw [k1] at hmm;obtain rfl:=Option.some.inj hmm
  simp only [Option.some.injEq] at h4;subst h4
  refine ⟨some ⟨b,off,none⟩,cap,by rw [hlen];exact k2,fun i row hrow=>⟨(hr i row hrow).1,fun j p hp=>?_⟩⟩
  obtain ⟨v,hv,hh⟩:=h7.get ((hr i row hrow).2 j p hp)
  exact ⟨v,by rw [add_addr,cell_row h6,← hv];congr 1;omega,hh⟩
theorem rows_vals {X:Wd} {es:Nat} {f:Nat→Option Value}:∀ (rows:List (List PVal)),(∀ i row,rows[i]?=some row→row.length=es∧∀ j p,row[j]?=some p→∃ c,f (i * es+j)=some c∧p.holds X c)→
    ∃ vs:List Value,vs.length=rows.length * es∧(∀ j u,vs[j]?=some u→f j=some u)∧(∀ u∈vs,u.oneCell'=true)∧∀ i row,rows[i]?=some row→row.length=es∧∀ j p,row[j]?=some p→∃ c,vs[i * es+j]?=some c∧p.holds X c:=by
  intro rows h
  have hget:∀ j,j < rows.length * es→∃ c,f j=some c∧c.oneCell'=true:=fun j hj=>by
    have hes:0 < es:=by
      rcases Nat.eq_zero_or_pos es with h0|h0
      · rw [h0] at hj;simp at hj
      · exact h0
    have hi:j / es < rows.length:=Nat.div_lt_of_lt_mul (by rw [Nat.mul_comm];exact hj)
    obtain ⟨h1,h2⟩:=h (j / es) rows[j / es] (List.getElem?_eq_getElem hi)
    have hm:j % es < rows[j / es].length:=by rw [h1];exact Nat.mod_lt _ hes
    obtain ⟨c,hc,hh⟩:=h2 (j % es) _ (List.getElem?_eq_getElem hm)
    refine ⟨c,?_,PVal.one _ hh⟩
    rw [← hc];congr 1
    have:=Nat.div_add_mod j es
    rw [Nat.mul_comm] at this;omega
  let vs:=(List.range (rows.length * es)).map fun j=>(f j).getD undef
  have hvs:∀ j,j < rows.length * es→vs[j]?=some ((f j).getD undef):=fun j hj=>by simp [vs,hj]
  have hlen:vs.length=rows.length * es:=by simp [vs]
  refine ⟨vs,hlen,fun j u hu=>?_,fun u hu=>?_,fun i row hr=>⟨(h i row hr).1,fun j p hp=>?_⟩⟩
  · have hj:j < rows.length * es:=by rw [← hlen];exact (List.getElem?_eq_some_iff.1 hu).1
    obtain ⟨c,hc,_⟩:=hget j hj
    rw [hvs j hj,hc] at hu
    simp at hu;rw [hc,hu]
  · obtain ⟨j,hj,hju⟩:=List.mem_iff_getElem.1 hu
    have hj':j < rows.length * es:=by rw [← hlen];exact hj
    obtain ⟨c,hc,h1⟩:=hget j hj'
    have h2:=hvs j hj'
    rw [List.getElem?_eq_getElem hj,hju,hc] at h2
    simp at h2;rw [h2];exact h1
  · obtain ⟨c,hc,hh⟩:=(h i row hr).2 j p hp
    have hi:i < rows.length:=(List.getElem?_eq_some_iff.1 hr).1
    have hj:j < es:=by rw [← (h i row hr).1];exact (List.getElem?_eq_some_iff.1 hp).1
    have hlt:i * es+j < rows.length * es:=by
      have:(i+1) * es≤rows.length * es:=Nat.mul_le_mul_right _ hi
      rw [Nat.add_mul] at this;omega
    exact ⟨c,by rw [hvs _ hlt,hc];rfl,hh⟩
theorem app_fresh {P:Program} {T e ty:TypeId} {sz by_:Nat} (hT:TI P T (.slice e) sz by_) {ke:TK} {es be:Nat} (he:TI P e ke es be) {z:List Value} (hz:TZ P e z) (hzl:z.length=es) {w:World}
    {bs src:Option Addr} {n cap m c:Nat} {olds news:List Value} (hbase:(bs=none∧n=0∧cap=0∧olds=[])∨∃ b,bs=some b∧olds.length=n * es∧n≤cap∧∀ j u,olds[j]?=some u→w.cell? (b.add j)=some u)
    (hnl:news.length=m * es) (hsrc:0 < m→∃ a,src=some a∧∀ j u,news[j]?=some u→w.cell? (a.add j)=some u)
    (hgrow:cap < n+m) (h63:n+m≤maxLen) (hby:(n+m) * be≤140737488355328) :
    ∃ cap' arr,(Builtin.append_ #[T,T] ty #[.slice bs n cap,.slice src m c]).run P w=.ok (.slice (some ⟨w.heap.size,0,none⟩) (n+m) cap') (w.drew.alloc (.cells arr e))∧
      n+m≤cap'∧cap'≤maxLen∧arr.size=cap' * es∧arr.toList.take ((n+m) * es)=olds++news:=by
  obtain ⟨d,hdd,hkk⟩:=hT.undd
  have:d=.slice e:=by cases d<;>simp [TK.of] at hkk;rw [hkk]
  subst this
  obtain ⟨i,hi,his,hib⟩:=he.infoo
  have hzz:=hz.zero
  simp only [hi,Option.bind_some] at hzz
  cases hz0:i.zero with
  | none=>simp [hz0] at hzz
  | some zv=>
    simp only [hz0,Option.map_some,Option.some.injEq] at hzz
    have hzs:zv.cells.size=es:=by rw [← hzl,← hzz];simp
    have hsmall:n+m≤9223372036854775807:=by simp only [maxLen] at h63;omega
    have hge:=grownCap_ge w (n+m) cap e
    have hcm:=grownCap_le_maxLen w (n+m) cap e h63
    have hm:0 < m:=by
      rcases hbase with ⟨_,h1,h2,_⟩ | ⟨b,_,_,h1,_⟩<;>omega
    obtain ⟨a,rfl,hnews⟩:=hsrc hm
    subst his hib
    have hol:olds.length=n * i.size:=by
      rcases hbase with ⟨_,rfl,_,rfl⟩ | ⟨b,_,h1,_⟩
      · simp
      · exact h1
    have hlen:(olds++news).length=(n+m) * i.size:=by rw [List.length_append,hol,hnl,Nat.add_mul]
    refine ⟨grownCap w (n+m) cap e,olds.toArray++news.toArray++Builtin.zeroCells zv.cells (grownCap w (n+m) cap e - (n+m)),?_,hge,hcm,?_,?_⟩
    · rcases hbase with ⟨rfl,rfl,rfl,rfl⟩ | ⟨b,rfl,h1,h2,h3⟩
      · have hr:=run_append_nil (P:=P) w T ty e i zv hdd hi hz0 a m c news hnl hnews hm (by omega) (by simp only [Nat.zero_add] at hby;omega)
        simpa using hr
      · exact run_append_grow (P:=P) w T ty e i zv hdd hi hz0 b n cap olds h1 h3 a m c news hnl hnews hgrow (by omega) (growslice_fits hgrow hby)
    · simp only [Array.size_append,List.size_toArray,size_zeroCells,hzs,hol,hnl,← Nat.add_mul]
      congr 1;omega
    · simp only [Array.toList_append,List.append_assoc]
      rw [← List.append_assoc,← hlen]
      exact List.take_left
theorem app_nothing {P:Program} {T e ty:TypeId} {sz by_:Nat} (hT:TI P T (.slice e) sz by_) {ke:TK} {es be:Nat} (he:TI P e ke es be) {w:World} {bs src:Option Addr} {n cap c:Nat} (hn:n≤cap) :
    (Builtin.append_ #[T,T] ty #[.slice bs n cap,.slice src 0 c]).run P w=.ok (.slice bs n cap) w:=by
  obtain ⟨d,hdd,hkk⟩:=hT.undd
  have:d=.slice e:=by cases d<;>simp [TK.of] at hkk;rw [hkk]
  subst this
  cases src<;>cases bs<;>simp [Builtin.append_,run_underlying hdd,he.run_sizeOf,Builtin.lenOf,hn,Builtin.firstCells,loadCells,loadCellsFrom,storeCells]
theorem rowsAt_append {X:Wd} {arr:Array Value} {es:Nat} {rows news:List (List PVal)} {olds nvs:List Value} (ho:olds.length=rows.length * es) (hn:nvs.length=news.length * es)
    (htake:arr.toList.take ((rows.length+news.length) * es)=olds++nvs)
    (hold:∀ i row,rows[i]?=some row→row.length=es∧∀ j p,row[j]?=some p→∃ c,olds[i * es+j]?=some c∧p.holds X c)
    (hnew:∀ i row,news[i]?=some row→row.length=es∧∀ j p,row[j]?=some p→∃ c,nvs[i * es+j]?=some c∧p.holds X c):RowsAt X arr 0 es (rows++news):=by
  have hget:∀ (k:Nat) u,(olds++nvs)[k]?=some u→arr[k]?=some u:=fun k u hk=>by
    rw [← htake,List.getElem?_take] at hk
    split at hk
    · simpa using hk
    · cases hk
  intro i row hr
  by_cases hi:i < rows.length
  · rw [List.getElem?_append_left hi] at hr
    refine ⟨(hold i row hr).1,fun j p hp=>?_⟩
    obtain ⟨c,hc,hh⟩:=(hold i row hr).2 j p hp
    refine ⟨c,hget _ _ ?_,hh⟩
    rw [Nat.zero_add,List.getElem?_append_left (List.getElem?_eq_some_iff.1 hc).1];exact hc
  · rw [List.getElem?_append_right (by omega)] at hr
    refine ⟨(hnew _ row hr).1,fun j p hp=>?_⟩
    obtain ⟨c,hc,hh⟩:=(hnew _ row hr).2 j p hp
    refine ⟨c,hget _ _ ?_,hh⟩
    have e:(i - rows.length) * es=i * es - rows.length * es:=Nat.sub_mul _ _ _
    have hle:rows.length * es≤i * es:=Nat.mul_le_mul_right _ (by omega)
    rw [Nat.zero_add,List.getElem?_append_right (by rw [ho];omega),ho,← hc]
    congr 1;omega
theorem wle_drew_alloc {w:World} {S:Nat→Prop} (hS:∀ b,S b→b < w.heap.size) (ob:Obj):Wd.le ⟨w,S⟩ ⟨w.drew.alloc ob,S⟩:=fun b hb=>⟨hb,Below.heap_alloc w.drew ob b (hS b hb)⟩
section append
variable {T e:TypeId} {x y:Operand} {sz by_:Nat} [hT:TI C.P T (.slice e) sz by_] {ke:TK} {es be:Nat} [he:TI C.P e ke es be] {z:List Value} [hz:TZ C.P e z] {news:List (List PVal)} {ro:Nat→Bool}
theorem src_vals {τ:St} {a:Act} {w:World} {G:Gh} {base:Option Addr} (h:match base with
      | none=>news=[]
      | some ad=>∀ i row,news[i]?=some row→row.length=es∧∀ j p,row[j]?=some p→∃ c,w.cell? (ad.add (i * es+j))=some c∧p.holds ⟨w,G.S⟩ c) :
    ∃ nvs:List Value,nvs.length=news.length * es∧(0 < news.length→∃ ad,base=some ad∧∀ j u,nvs[j]?=some u→w.cell? (ad.add j)=some u)∧(∀ u∈nvs,u.oneCell'=true)∧
      ∀ i row,news[i]?=some row→row.length=es∧∀ j p,row[j]?=some p→∃ c,nvs[i * es+j]?=some c∧p.holds ⟨w,G.S⟩ c:=by
  cases base with
  | none=>simp only at h;subst h;exact ⟨[],by simp,by simp,by simp,by simp⟩
  | some ad=>
    obtain ⟨vs,h1,h2,h3,h4⟩:=rows_vals (X:=⟨w,G.S⟩) (es:=es) (f:=fun j=>w.cell? (ad.add j)) news h
    exact ⟨vs,h1,fun _=>⟨ad,rfl,h2⟩,h3,h4⟩
include hT he hz
theorem lop_append_nil {d n:Nat} {mo0:Option MO} (ho:o.op=.call ⟨.builtin .append,#[x,y],#[T,T]⟩) (hdst:o.dst=some d) (hx:σ.look x=.p (.v (.slice none 0 0))) (hsrc:SrcOk C σ y es news ro) (hm:σ.mem d=(n,mo0))
    (hes:0 < es) (hzl:z.length=es) (h63:news.length≤maxLen) (hby:news.length * be≤140737488355328) (hd:dOk C o.dst=true) :
    LOp C o σ ⟨.o (.osl d n es 0 news.length),[(d,(n+1,some (.buf e es news)))]⟩ (fun q=>ro q||q == d):=
  lop_gen (by simp) hd hm fun τ a w G hl hm' h=>by
    have hv:=val_of h ((hl x (by simp [ho,Op.operands,Call.operands])).trans hx)
    obtain ⟨base,cap,h1,h2⟩:=hsrc τ a w G (hl y (by simp [ho,Op.operands,Call.operands])) (fun q hq=>hm' q (by simp [hq])) h
    obtain ⟨nvs,k1,k2,k3,k4⟩:=src_vals (τ:=τ) (a:=a) h2
    have hlen:(G.μ d).length=n:=by have:=h.gens d;rw [hm' d (by simp),hm] at this;exact this
    by_cases h0:news.length=0
    · have hnil:news=[]:=List.eq_nil_of_length_eq_zero h0
      subst hnil
      have hr:=app_nothing (ty:=o.type) hT he (w:=w) (bs:=none) (src:=base) (n:=0) (cap:=0) (c:=cap) (Nat.le_refl _)
      refine ⟨.slice none 0 0,w,(none,0),[],?_,rfl,.same,rfl,Nat.le_refl _,fun _ _ _=>rfl,by simp,?_,?_⟩
      · simp only [execOp,ho,resolve,invoke,builtin,Sem.run_bind,Sem.run_pure,Result.andThen_ok,List.map_toArray,List.map_cons,List.map_nil,hv,h1,List.length_nil,hr]
      · exact ⟨hes,by simp,by simp,.inl ⟨rfl,rfl,rfl⟩⟩
      · exact ⟨none,0,mu_new hlen,by simp,by simp⟩
    · obtain ⟨cap',arr,hr,g1,g2,g3,g4⟩:=app_fresh (ty:=o.type) hT he hz hzl (w:=w) (bs:=none) (src:=base) (n:=0) (cap:=0) (m:=news.length) (c:=cap) (olds:=[]) (news:=nvs) (.inl ⟨rfl,rfl,rfl,rfl⟩) k1 k2 (by omega) (by omega) (by simpa using hby)
      simp only [Nat.zero_add,List.nil_append] at hr g1 g4
      refine ⟨.slice (some ⟨w.heap.size,0,none⟩) news.length cap',w.drew.alloc (.cells arr e),(some w.heap.size,cap'),[w.heap.size],by
        simp only [execOp,ho,resolve,invoke,builtin,Sem.run_bind,Sem.run_pure,Result.andThen_ok,List.map_toArray,List.map_cons,List.map_nil,hv,h1,hr],rfl,.same,rfl,by simp,fun k hk _=>Below.heap_alloc w.drew _ k hk,by simp,?_,?_⟩
      · refine ⟨hes,g2,g1,.inr ⟨w.heap.size,arr,rfl,rfl,heap_alloc_new w.drew _,g3,?_⟩⟩
        have:=rowsAt_append (X:=⟨w,G.S⟩) (arr:=arr) (es:=es) (rows:=[]) (news:=news) (olds:=[]) (nvs:=nvs) (by simp) k1 (by simpa using g4) (by simp) k4
        simp only [List.nil_append] at this
        intro i row hrow
        refine ⟨(this i row hrow).1,fun j p hp=>?_⟩
        obtain ⟨c,hc,hh⟩:=(this i row hrow).2 j p hp
        exact ⟨c,hc,p.mono (wle_drew_alloc (fun b hb=>(h.sbd b hb).1) _) hh⟩
      · exact ⟨some w.heap.size,cap',mu_new hlen,by simpa using g1,by simp⟩
theorem lop_append_osl {ob g n len:Nat} {rows:List (List PVal)} (ho:o.op=.call ⟨.builtin .append,#[x,y],#[T,T]⟩) (hx:σ.look x=.o (.osl ob g es 0 len)) (hm:σ.mem ob=(n,some (.buf e es rows))) (hn:n=g+1) (hlr:len=rows.length)
    (hsrc:SrcOk C σ y es news ro) (hzl:z.length=es) (h63:rows.length+news.length≤maxLen) (hby:(rows.length+news.length) * be≤140737488355328) (hd:dOk C o.dst=true) :
    LOp C o σ ⟨.o (.osl ob n es 0 (rows.length+news.length)),[(ob,(n+1,some (.buf e es (rows++news))))]⟩ (fun q=>ro q||q == ob):=
  lop_gen (by simp) hd hm fun τ a w G hl hm' h=>by
    subst hn hlr
    obtain ⟨m,c,p1,p2,p3⟩:=look_of h ((hl x (by simp [ho,Op.operands,Call.operands])).trans hx)
    obtain ⟨base,cap,h1,h2⟩:=hsrc τ a w G (hl y (by simp [ho,Op.operands,Call.operands])) (fun q hq=>hm' q (by simp [hq])) h
    obtain ⟨nvs,k1,k2,k3,k4⟩:=src_vals (τ:=τ) (a:=a) h2
    have hlen:(G.μ ob).length=g+1:=by have:=h.gens ob;rw [hm' ob (by simp),hm] at this;exact this
    obtain ⟨g',m',hg,hmm,hes,hmax,hrl,hh⟩:=h.mem ob _ _ (by rw [hm' ob (by simp)];exact hm)
    obtain rfl:g=g':=by omega
    rw [p1] at hmm;obtain rfl:=Option.some.inj hmm
    simp only [Nat.zero_mul,Nat.sub_zero] at p3
    simp only at hrl hmax hh
    -- the old rows' values
    have hold:∃ olds:List Value,((m=none∧rows.length=0∧c=0∧olds=[])∨∃ b,m=some b∧olds.length=rows.length * es∧rows.length≤c∧∀ j u,olds[j]?=some u→w.cell? ((⟨b,0,none⟩:Addr).add j)=some u)∧
        olds.length=rows.length * es∧(∀ i row,rows[i]?=some row→row.length=es∧∀ j p,row[j]?=some p→∃ u,olds[i * es+j]?=some u∧p.holds ⟨w,G.S⟩ u):=by
      rcases hh with ⟨h3,h4,h5⟩ | ⟨b,arr,h3,h4,h5,h6,h7⟩
      · have hr0:rows=[]:=List.eq_nil_of_length_eq_zero (by omega)
        subst hr0
        exact ⟨[],.inl ⟨h3,rfl,h4,rfl⟩,by simp,by simp⟩
      · have hcell:∀ j,w.cell? ((⟨b,0,none⟩:Addr).add j)=arr[j]?:=fun j=>by rw [cell_at rfl h5];simp
        obtain ⟨vs,q1,q2,q3,q4⟩:=rows_vals (X:=⟨w,G.S⟩) (es:=es) (f:=fun j=>arr[j]?) rows (fun i row hr=>⟨(h7 i row hr).1,fun j p hp=>by
          obtain ⟨u,hu,hpu⟩:=(h7 i row hr).2 j p hp
          exact ⟨u,by simpa using hu,hpu⟩⟩)
        exact ⟨vs,.inr ⟨b,h3,q1,hrl,fun j u hu=>by rw [hcell];exact q2 j u hu⟩,q1,q4⟩
    obtain ⟨olds,hb,hol,ho4⟩:=hold
    by_cases hroom:rows.length+news.length≤c
    · by_cases h0:news.length=0
      · have hnil:news=[]:=List.eq_nil_of_length_eq_zero h0
        subst hnil
        have hr:=app_nothing (ty:=o.type) hT he (w:=w) (bs:=m.map fun b=>⟨b,0,none⟩) (src:=base) (n:=rows.length) (cap:=c) (c:=cap) hrl
        refine ⟨a.eval x,w,(m,c),G.φ ob,?_,rfl,.same,rfl,Nat.le_refl _,fun _ _ _=>rfl,fun b hb=>⟨.inl hb,(h.own ob b hb).2⟩,?_,?_⟩
        · simp only [execOp,ho,resolve,invoke,builtin,Sem.run_bind,Sem.run_pure,Result.andThen_ok,List.map_toArray,List.map_cons,List.map_nil,p3,h1,List.length_nil,hr]
        · simp only [List.append_nil];exact ⟨hes,hmax,hrl,hh⟩
        · exact ⟨m,c,mu_new hlen,by simpa using hrl,by simpa using p3⟩
      · -- room: written in place
        rcases hh with ⟨h3,h4,h5⟩ | ⟨b,arr,h3,h4,h5,h6,h7⟩
        · omega
        · subst h3
          rcases hb with ⟨hb,_⟩ | ⟨b',hb',_,_,hb3⟩
          · cases hb
          · obtain rfl:=Option.some.inj hb'
            obtain ⟨ad,rfl,hnews⟩:=k2 (by omega)
            obtain ⟨d,hdd,hkk⟩:=hT.undd
            have:d=.slice e:=by cases d<;>simp [TK.of] at hkk;rw [hkk]
            subst this
            obtain ⟨i,hi,his,hib⟩:=he.infoo
            subst his
            have hfit:rows.length * i.size+nvs.length≤arr.size:=by rw [k1,h6,← Nat.add_mul];exact Nat.mul_le_mul_right _ hroom
            have hr:=run_append_room (P:=C.P) w T o.type e i hdd hi b rows.length c arr h5 ad news.length cap nvs k1 hnews k3 hroom hfit
            have hbS:¬ G.S b:=h.stab ob b (by rw [h4];simp)
            have hle:Wd.le ⟨w,G.S⟩ ⟨w.setRow b (arr.toList.take (rows.length * i.size)++nvs++arr.toList.drop (rows.length * i.size+nvs.length)).toArray,G.S⟩:=fun k hk=>⟨hk,setRow_other w b k _ fun e=>hbS (e ▸ hk)⟩
            have htk:arr.toList.take (rows.length * i.size)=olds:=by
              apply List.ext_getElem?
              intro j
              by_cases hj:j < rows.length * i.size
              · rw [List.getElem?_take,if_pos hj]
                have hjo:j < olds.length:=by rw [hol];exact hj
                have h9:=hb3 j olds[j] (List.getElem?_eq_getElem hjo)
                rw [cell_at rfl h5] at h9
                rw [List.getElem?_eq_getElem hjo];simpa using h9
              · rw [List.getElem?_eq_none (by simp;omega),List.getElem?_eq_none (by omega)]
            refine ⟨.slice (some ⟨b,0,none⟩) (rows.length+news.length) c,w.setRow b (arr.toList.take (rows.length * i.size)++nvs++arr.toList.drop (rows.length * i.size+nvs.length)).toArray,(some b,c),[b],by
              simp only [execOp,ho,resolve,invoke,builtin,Sem.run_bind,Sem.run_pure,Result.andThen_ok,List.map_toArray,List.map_cons,List.map_nil,p3,Option.map_some,h1,hr],setRow_frame.1,setRow_frame.2.1,setRow_frame.2.2.1,Nat.le_of_eq setRow_frame.2.2.2,
              fun k _ hk=>setRow_other w b k _ fun e=>hk (by rw [h4,e];simp),fun k hk=>by
                simp at hk;subst hk
                have:=(h.own ob k (by rw [h4];simp)).2
                exact ⟨.inl (by rw [h4];simp),by simpa using this⟩,?_,?_⟩
            · refine ⟨hes,hmax,by simpa using hroom,.inr ⟨b,_,rfl,rfl,setRow_heap w b _ _ e _ h5,?_,?_⟩⟩
              · simp only [List.size_toArray,List.length_append,List.length_take,List.length_drop,Array.length_toList]
                omega
              · have:=rowsAt_append (X:=⟨w,G.S⟩) (arr:=(arr.toList.take (rows.length * i.size)++nvs++arr.toList.drop (rows.length * i.size+nvs.length)).toArray) (es:=i.size) (rows:=rows) (news:=news) (olds:=olds) (nvs:=nvs) hol k1
                  (by rw [htk]
                      show List.take _ (olds++nvs++_)=_
                      rw [show (rows.length+news.length) * i.size=(olds++nvs).length from by rw [List.length_append,hol,k1,Nat.add_mul]]
                      exact List.take_left) ho4 k4
                intro q row hrow
                refine ⟨(this q row hrow).1,fun j p hp=>?_⟩
                obtain ⟨u,hu,hpu⟩:=(this q row hrow).2 j p hp
                exact ⟨u,hu,p.mono hle hpu⟩
            · exact ⟨some b,c,mu_new hlen,by simpa using hroom,by simp⟩
    · have hb':(m.map (fun b=>(⟨b,0,none⟩:Addr))=none∧rows.length=0∧c=0∧olds=[])∨∃ b,m.map (fun b=>(⟨b,0,none⟩:Addr))=some b∧olds.length=rows.length * es∧rows.length≤c∧∀ j u,olds[j]?=some u→w.cell? (b.add j)=some u:=by
        rcases hb with ⟨rfl,q⟩ | ⟨b,rfl,q⟩
        · exact .inl ⟨rfl,q⟩
        · exact .inr ⟨_,rfl,q⟩
      obtain ⟨cap',arr,hr,g1,g2,g3,g4⟩:=app_fresh (ty:=o.type) hT he hz hzl (w:=w) (src:=base) (m:=news.length) (c:=cap) (news:=nvs) hb' k1 k2 (by omega) h63 hby
      refine ⟨.slice (some ⟨w.heap.size,0,none⟩) (rows.length+news.length) cap',w.drew.alloc (.cells arr e),(some w.heap.size,cap'),[w.heap.size],by
        simp only [execOp,ho,resolve,invoke,builtin,Sem.run_bind,Sem.run_pure,Result.andThen_ok,List.map_toArray,List.map_cons,List.map_nil,p3,h1,hr],rfl,.same,rfl,by simp,fun k hk _=>Below.heap_alloc w.drew _ k hk,by simp,?_,?_⟩
      · refine ⟨hes,g2,by simpa using g1,.inr ⟨w.heap.size,arr,rfl,rfl,heap_alloc_new w.drew _,g3,?_⟩⟩
        have:=rowsAt_append (X:=⟨w,G.S⟩) (arr:=arr) (es:=es) (rows:=rows) (news:=news) (olds:=olds) (nvs:=nvs) hol k1 g4 ho4 k4
        intro i row hrow
        refine ⟨(this i row hrow).1,fun j p hp=>?_⟩
        obtain ⟨u,hu,hpu⟩:=(this i row hrow).2 j p hp
        exact ⟨u,hu,p.mono (wle_drew_alloc (fun b hb=>(h.sbd b hb).1) _) hpu⟩
      · exact ⟨some w.heap.size,cap',mu_new hlen,by simpa using g1,by simp⟩
end append
end ops
end Go.Aw
