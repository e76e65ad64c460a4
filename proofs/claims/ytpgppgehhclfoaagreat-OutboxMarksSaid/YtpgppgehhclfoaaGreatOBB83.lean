/- wire: readers of bytes, a writer's bytes; small numbers -/
import Derived.Test.YtpgppgehhclfoaaGreatOBB47
import Derived.Test.YtpgppgehhclfoaaGreatOBA06
import Derived.Test.YtpgppgehhclfoaaGreatOBB88
namespace Go.Proofs.YtpgppgehhclfoaaGreat.Wi
open Go Go.RowKit Go.Aw
set_option linter.unusedVariables false
set_option linter.unusedSimpArgs false
set_option maxRecDepth 8000
set_option maxHeartbeats 4000000
theorem lop_max_l {C:Ctx} {o:Oper} {σ:St} {x y:Operand} {T1 T2:TypeId} {k:IntKind} {m n:Int} (ho:o.op=.call ⟨.builtin .max,#[x,y],#[T1,T2]⟩) (hx:σ.look x=.p (.v (.int k m))) (hy:σ.look y=.p (.v (.int k n))) (h:n≤m) (hd:dOk C o.dst=true):LOp C o σ ⟨.p (.v (.int k m)),[]⟩ (fun _=>false):=by
 have:=lop_max ho hx hy hd
 rwa [if_neg (by omega)] at this
theorem lop_max_r {C:Ctx} {o:Oper} {σ:St} {x y:Operand} {T1 T2:TypeId} {k:IntKind} {m n:Int} (ho:o.op=.call ⟨.builtin .max,#[x,y],#[T1,T2]⟩) (hx:σ.look x=.p (.v (.int k m))) (hy:σ.look y=.p (.v (.int k n))) (h:m < n) (hd:dOk C o.dst=true):LOp C o σ ⟨.p (.v (.int k n)),[]⟩ (fun _=>false):=by
 have:=lop_max ho hx hy hd
 rwa [if_pos (by omega)] at this
namespace W4
theorem lopC {C:Ctx} {o:Oper} {σ:St} {e:Eff} {ro:Nat→Bool} (h:LOp C o σ e ro:=by
  first|(apply lop_max_l;(focus rfl);(focus rfl);(focus rfl);(focus omega);(focus rfl))|(apply lop_max_r;(focus rfl);(focus rfl);(focus rfl);(focus omega);(focus rfl))|(apply lop_osl_eqnil;(focus rfl);(focus exact inferInstance);(focus rfl);(focus exact ⟨_,_,_,rfl,rfl⟩);(focus rfl);(focus rfl))|(apply lop_ap_exo;(focus rfl);(focus exact inferInstance);(focus exact inferInstance);(focus exact inferInstance);(focus rfl);(focus rfl);(focus rfl);(focus rfl);(focus rfl);(focus rfl);(focus first|(simp only [maxLen,List.length_append,List.length_cons,List.length_nil,List.length_take,List.length_drop,List.length_map];omega)|omega);(focus first|(simp only [maxLen,List.length_append,List.length_cons,List.length_nil,List.length_take,List.length_drop,List.length_map];omega)|omega);(focus rfl))|exact W2.lopC|fail):LOp C o σ e ro:=h
section steps
variable {C:Ctx} {ops:Array Oper} {o:Oper} {rest:List Oper} {K:St→Prop} {σ:St} {e:Eff} {ro:Nat→Bool} {W:List (Nat × Nat)} {i:Nat}
theorem rnC {d:Nat} (hg:Guard ops σ o true:=by first|exact gd_n rfl rfl|exact gd_t rfl rfl rfl rfl|exact gd_t rfl rfl rfl (by assumption)) (hd:o.dst=some d:=by rfl) (h:LOp C o σ e ro:=by exact lopC) (hk:RunN C ops rest K (e.app (some d) σ)):RunN C ops (o::rest) K σ:=rn_any hg hd h hk
theorem rkC {d:Nat} (hg:Guard ops σ o true:=by first|exact gd_n rfl rfl|exact gd_t rfl rfl rfl rfl|exact gd_t rfl rfl rfl (by assumption)) (hd':o.dst=some d:=by rfl) (hd:dOk C o.dst=true:=by rfl) (h:LOp C o σ e ro:=by exact lopC) (hro:∀ x,ro x=true→okObj ops W i x=true:=by first|exact fun _=>ro_none|exact ro_one rfl|exact ro_k1 rfl|exact ro_one (by kernel_rfl)|exact ro_k1 (by kernel_rfl)|exact ro_kIn (by decide)) (hob:∀ p∈e.obj,(i,p.1)∈W:=by first|exact ob_none|exact ob_one (by decide)|decide) (hk:RunK C ops W (i+1) rest K (e.app (some d) σ)):RunK C ops W i (o::rest) K σ:=rk_wr hg hd' hd h hro hob hk
end steps
end W4
open W4
theorem cloneB_w (l:List Nat) (ex:Bool) (h:l.length≤1000000000):PCall Tryz.prog 124 [.p (.sl 1 (l.map bR) ex)] (.p (.sl 1 (l.map bR) false)):=by
 refine pcall_of Tryz.func124 rfl (fun w0 F S0 M0=>?_)
 as_aux_lemma=>
  repeat' (first|refine jx5 ?_|refine jy0 ?_ ?_|exact spF|refine spQ fun hq hq'=>?_|refine spN fun hn=>?_|fail)
  ·have e:l=[]:=List.eq_nil_of_length_eq_zero (by have:=congrArg List.length hn;rwa [List.length_map,List.length_nil] at this)
   subst e
   exact rt1 rfl rfl (.one .nil) rfl
  ·exact rt1 rfl rfl finS_p rfl
instance cloneB_i {l:List Nat} {ex:Bool}:PC Tryz.prog 124 [.p (.sl 1 (l.map bR) ex)] (l.length≤1000000000) (.p (.sl 1 (l.map bR) false)):=⟨cloneB_w l ex⟩
theorem cloneO_o (n:Nat) (l:List Nat) (h:l.length≤1000000000):OCall Tryz.prog 124 [.o (.osl 1000 n 1 0 l.length)] (memL [(1000,(n+1,some (.buf 5 1 (l.map bR))))]) (.p (.sl 1 (l.map bR) false)) (memL [(1000,(n+1,some (.buf 5 1 (l.map bR))))]):=by
 refine ocall_of1 Tryz.func124 rfl (fun w0 F S0 M0=>?_)
 as_aux_lemma=>
  repeat' (first|refine jx5 ?_|refine jy0 ?_ ?_|exact spF|refine spQ fun hq hq'=>?_|refine spN fun hn=>?_|fail)
  ·have e:l=[]:=List.eq_nil_of_length_eq_zero hn
   subst e
   exact RetO.mk (ot1 rfl rfl (.one .nil) rfl) ⟨.buf,trivial⟩
  ·exact RetO.mk (ot1 rfl rfl finS_p rfl) ⟨.buf,trivial⟩
instance cloneO_i {c g n:Nat} {l:List Nat}:OC Tryz.prog 124 [.o (.osl c g 1 0 l.length)] [(c,(n,some (.buf 5 1 (l.map bR))))] [] (n=g+1∧l.length≤1000000000) (.p (.sl 1 (l.map bR) false)) [(c,(n,some (.buf 5 1 (l.map bR))))]:=⟨fun h=>by obtain ⟨rfl,h⟩:=h;exact (cloneO_o g l h).one c⟩
theorem from_o (l:List Nat) (ex:Bool) (h:l.length≤1000000000):OCall Tryz.prog 64 [.p (.sl 1 (l.map bR) ex)] (fun _=>(0,none)) (.o (.ptr 6 0 0)) (memL [(6,(1,some (rdM (l,0))))]):=by
 refine ocall_ofF 6 Tryz.func64 rfl (fun w0 F S0 M0=>?_)
 as_aux_lemma=>
  repeat' (first|refine jx5 ?_|refine jy0 ?_ ?_|exact spF|refine spQ fun hq hq'=>?_|refine spN fun hn=>?_|fail)
  exact RetO.mk (ot1 rfl rfl (.one (.kptr rfl)) rfl) ⟨.box finL_p,trivial⟩
instance from_i {c k:Nat} {l:List Nat} {ex:Bool}:OC Tryz.prog 64 [.p (.sl 1 (l.map bR) ex)] [] [(c,k)] (l.length≤1000000000) (.o (.ptr c k 0)) [(c,(k+1,some (rdM (l,0))))]:=⟨fun h=>(from_o l ex h).fresh1 c k⟩
theorem bytes_o (n:Nat) (bs:List Nat) (h:bs.length≤1000000000):OCall Tryz.prog 63 [.o (.ptr 1000 n 0)] (memL [(1000,(n+1,some (.abs (wrA bs))))]) (.p (.sl 1 (bs.map bR) false)) (memL [(1000,(n+1,some (.abs (wrA bs))))]):=by
 refine ocall_of1 Tryz.func63 rfl (fun w0 F S0 M0=>?_)
 refine aws_says (says_unpack' (p:=1000) (o:=901) rfl rfl (List.length_map _) rfl (by decide)) ?_
 repeat' (first|refine jx8 ?_|refine jy0 ?_ ?_|exact spF|refine spQ fun hq hq'=>?_|refine spN fun hn=>?_|fail)
 refine aws_says (says_pack (p:=1000) (o:=901) (pre:=[]) (post:=[]) rfl rfl rfl rfl (by rw [List.length_map]) (by decide)) ?_
 as_aux_lemma=>
  repeat' (first|refine jx5 ?_|refine jy0 ?_ ?_|exact spF|refine spQ fun hq hq'=>?_|refine spN fun hn=>?_|fail)
  exact RetO.mk (ot1 rfl rfl finS_p rfl) ⟨.abs,trivial⟩
instance bytes_i {c g n:Nat} {bs:List Nat}:OC Tryz.prog 63 [.o (.ptr c g 0)] [(c,(n,some (.abs (wrA bs))))] [] (n=g+1∧bs.length≤1000000000) (.p (.sl 1 (bs.map bR) false)) [(c,(n,some (.abs (wrA bs))))]:=⟨fun h=>by obtain ⟨rfl,h⟩:=h;exact (bytes_o g bs h).one c⟩
theorem small_o (n:Nat) (r:RS) (most:Int) (hm:most≤9223372036854775807) (hb:∀ b∈r.1,b < 256) (hl:r.1.length≤1000000000):OCall Tryz.prog 65 [.o (.ptr 1000 n 0),.p (.i most)] (memL [(1000,(n+1,some (rdM r)))]) (.p (.i (smallS most r).1)) (memL [(1000,(n+1,some (rdM (smallS most r).2)))]):=by
 refine ocall_of1 Tryz.func65 rfl (fun w0 F S0 M0=>?_)
 have hf:=numS_fit hb
 unfold smallS
 by_cases h0:0≤most
 ·obtain ⟨q,rfl⟩:∃ q:Nat,most=q:=⟨most.toNat,by omega⟩
  have d1:decide (0≤(q:Int))=true:=decide_eq_true h0
  have e:(decide (0≤(q:Int))&&decide (((numS r).1:Int)≤(q:Int)))=decide (((numS r).1:Int)≤((q % md .u64:Nat):Int)):=by
   rw [d1,Bool.true_and,Nat.mod_eq_of_lt (by show q < 18446744073709551616;omega)]
  rw [e]
  by_cases hz:(mustS (decide (((numS r).1:Int)≤((q % md .u64:Nat):Int))) (numS r).2).2=0
  ·have d2:decide ((mustS (decide (((numS r).1:Int)≤((q % md .u64:Nat):Int))) (numS r).2).2≠0)=false:=decide_eq_false fun k=>k hz
   have hle:((numS r).1:Int)≤(q:Int):=by
    have hz':=hz
    unfold mustS at hz'
    by_cases k:((numS r).1:Int)≤((q % md .u64:Nat):Int)
    ·rw [Nat.mod_eq_of_lt (by show q < 18446744073709551616;omega)] at k;exact k
    ·rw [decide_eq_false k] at hz'
     by_cases k2:(numS r).2.2=0
     ·rw [if_pos ⟨k2,rfl⟩] at hz';cases hz'
     ·rw [if_neg (fun q=>k2 q.1)] at hz';exact absurd hz' k2
   rw [if_pos hz]
   as_aux_lemma=>
    repeat' (first|refine jx5 ?_|refine jy0 ?_ ?_|exact spF|refine spQ fun hq hq'=>?_|refine spN fun hn=>?_|fail)
    exact RetO.mk (ot1 rfl rfl finS_p rfl) ⟨.box finL_p,trivial⟩
  ·have d2:decide ((mustS (decide (((numS r).1:Int)≤((q % md .u64:Nat):Int))) (numS r).2).2≠0)=true:=decide_eq_true hz
   rw [if_neg hz]
   as_aux_lemma=>
    repeat' (first|refine jx5 ?_|refine jy0 ?_ ?_|exact spF|refine spQ fun hq hq'=>?_|refine spN fun hn=>?_|fail)
    exact RetO.mk (ot1 rfl rfl finS_p rfl) ⟨.box finL_p,trivial⟩
 ·have d1:decide (0≤most)=false:=decide_eq_false h0
  rw [d1,Bool.false_and]
  by_cases hz:(mustS false (numS r).2).2=0
  ·exfalso
   unfold mustS at hz
   by_cases k2:(numS r).2.2=0
   ·rw [if_pos ⟨k2,rfl⟩] at hz;cases hz
   ·rw [if_neg (fun q=>k2 q.1)] at hz;exact absurd hz k2
  ·have d2:decide ((mustS false (numS r).2).2≠0)=true:=decide_eq_true hz
   rw [if_neg hz]
   as_aux_lemma=>
    repeat' (first|refine jx5 ?_|refine jy0 ?_ ?_|exact spF|refine spQ fun hq hq'=>?_|refine spN fun hn=>?_|fail)
    exact RetO.mk (ot1 rfl rfl finS_p rfl) ⟨.box finL_p,trivial⟩
end Go.Proofs.YtpgppgehhclfoaaGreat.Wi
namespace Go.Aw
open Go Go.RowKit
theorem aws_endS {C:Ctx} {Q:Exit→St→Prop} {σ:St} {c:Code} (h:AWs C [c] (fun e s=>∃ τ,Says C s τ∧Q e τ) σ):AWs C [c] Q σ:=by
 have h1:=aws_one h
 intro a w hr
 refine wpIn_mono (h1 a w hr) ?_
 rintro e a' w' ⟨s,⟨τ,h2,h3⟩,h4⟩
 cases e<;>exact ⟨τ,h3,h2 _ _ h4⟩
theorem lop_icomp {C:Ctx} {o:Oper} {σ:St} {t:TypeId} {x:Operand} {n m:Int} (ho:o.op=.unOp .xor t x) (hx:σ.look x=.p (.v (.int .i64 n))) (hn : -9223372036854775808≤n∧n≤9223372036854775807) (hm : -n - 1=m) (hd:dOk C o.dst=true):LOp C o σ ⟨.p (.v (.int .i64 m)),[]⟩ (fun _=>false):=
 lop_val hd fun τ a' w G hl hm' h=>by
  have e1:=val_of h ((hl x (by simp [ho,Op.operands])).trans hx)
  have e3:(BitVec.ofInt 64 (-1) ^^^ BitVec.ofInt 64 n).toNat=2 ^ 64 - 1 - (BitVec.ofInt 64 n).toNat:=by
   rw [show BitVec.ofInt 64 (-1)=BitVec.allOnes 64 by decide,BitVec.allOnes_xor,BitVec.toNat_not]
  have e4:IntKind.i64.wrap ((2 ^ 64 - 1 - (BitVec.ofInt 64 n).toNat:Nat):Int)=m:=by
   rw [BitVec.toNat_ofInt,IntKind.wrap_i64]
   omega
  have e2:(Op.unary .xor (.int .i64 n)).run C.P w=.ok (.int .i64 m) w:=by
   simp only [Op.unary,show IntKind.i64.signed=true from rfl,if_true]
   show (Op.intBits .xor .i64 (-1) n).run C.P w=_
   show Result.ok (Value.int .i64 (IntKind.i64.wrap ((BitVec.ofInt 64 (-1) ^^^ BitVec.ofInt 64 n).toNat:Int))) w=_
   rw [e3,e4]
  exact ⟨_,by simp only [execOp,ho,e1,Sem.run_bind,e2,Result.andThen_ok];rfl,rfl,rfl⟩
end Go.Aw
namespace Go.Proofs.YtpgppgehhclfoaaGreat.Wi
open Go Go.RowKit Go.Aw Go.Aw.Cart Go.Proofs.YtpgppgehhclfoaaGreat.Ca
set_option linter.unusedVariables false
set_option linter.unusedSimpArgs false
set_option maxRecDepth 8000
set_option maxHeartbeats 4000000
namespace W5
theorem lopC {C:Ctx} {o:Oper} {σ:St} {e:Eff} {ro:Nat→Bool} (h:LOp C o σ e ro:=by
  first|(apply lop_icomp;(focus rfl);(focus rfl);(focus first|assumption|omega);(focus first|assumption|rfl);(focus rfl))|(apply lop_ixv;(focus rfl);(focus exact inferInstance);(focus exact inferInstance);(focus rfl);(focus rfl);(focus exact inferInstance);(focus omega);(focus omega);(focus omega);(focus rfl);(focus rfl);(focus rfl);(focus rfl))|exact W4.lopC|fail):LOp C o σ e ro:=h
section steps
variable {C:Ctx} {ops:Array Oper} {o:Oper} {rest:List Oper} {K:St→Prop} {σ:St} {e:Eff} {ro:Nat→Bool} {W:List (Nat × Nat)} {i:Nat}
theorem rnC {d:Nat} (hg:Guard ops σ o true:=by first|exact gd_n rfl rfl|exact gd_t rfl rfl rfl rfl|exact gd_t rfl rfl rfl (by assumption)) (hd:o.dst=some d:=by rfl) (h:LOp C o σ e ro:=by exact lopC) (hk:RunN C ops rest K (e.app (some d) σ)):RunN C ops (o::rest) K σ:=rn_any hg hd h hk
theorem rkC {d:Nat} (hg:Guard ops σ o true:=by first|exact gd_n rfl rfl|exact gd_t rfl rfl rfl rfl|exact gd_t rfl rfl rfl (by assumption)) (hd':o.dst=some d:=by rfl) (hd:dOk C o.dst=true:=by rfl) (h:LOp C o σ e ro:=by exact lopC) (hro:∀ x,ro x=true→okObj ops W i x=true:=by first|exact fun _=>ro_none|exact ro_one rfl|exact ro_k1 rfl|exact ro_one (by kernel_rfl)|exact ro_k1 (by kernel_rfl)|exact ro_kIn (by decide)) (hob:∀ p∈e.obj,(i,p.1)∈W:=by first|exact ob_none|exact ob_one (by decide)|decide) (hk:RunK C ops W (i+1) rest K (e.app (some d) σ)):RunK C ops W i (o::rest) K σ:=rk_wr hg hd' hd h hro hob hk
end steps
end W5
open W5
theorem numI_nat (m:Nat):numI (m:Int)=numB m:=by unfold numI;rw [Int.toNat_natCast]
theorem numI_len (x:Int):(numI x).length≤9:=by
 unfold numI numB
 rw [List.length_cons]
 have:(be x.toNat).length≤8:=beF_le 8 _
 omega
theorem intB_len (x:Int):(intB x).length≤9:=by
 have:=numI_len ((zig x:Nat):Int)
 rwa [numI_nat] at this
theorem flat_len {α:Type} {f:α→List Nat} {k:Nat}:∀ {l:List α},(∀ a∈l,(f a).length≤k)→(l.flatMap f).length≤k * l.length
 | [],_=>by simp
 | a::l,h=>by
  have h1:=h a List.mem_cons_self
  have h2:=flat_len (f:=f) (k:=k) (l:=l) fun x hx=>h x (List.mem_cons_of_mem _ hx)
  rw [List.flatMap_cons,List.length_append,List.length_cons,Nat.mul_succ];omega
theorem entB_len (e:Ent):(entB e).length≤36:=by
 have:=numI_len e.1;have:=numI_len e.2.1;have:=numI_len e.2.2.1;have:=intB_len e.2.2.2
 unfold entB
 rw [List.length_append,List.length_append,List.length_append];omega
theorem cartB_len {v:List Int} {l:List Ent} (hv:vecOk v) (hr:rightF v l=true):(cartB (v,l)).length≤20000:=by
 have hl:l.length≤400:=(ok_iff.1 hr).few
 have h1:(vecB v).length≤9 * v.length:=flat_len fun a _=>numI_len a
 have h2:(l.flatMap entB).length≤36 * l.length:=flat_len fun a _=>entB_len a
 have h3:=numI_len (l.length:Int)
 rw [numI_nat] at h3
 have h8:=hv.1
 unfold cartB
 rw [List.length_append,List.length_append]
 dsimp only
 omega
instance numI_i {c g n:Nat} {bs:List Nat} {x:Int}:OC Tryz.prog 60 [.o (.ptr c g 0),.p (.k .u64 x)] [(c,(n,some (.abs (wrA bs))))] [] (n=g+1∧(0≤x∧x < 18446744073709551616)∧bs.length≤1000000000) (.tup []) [(c,(n,some (.abs (wrA (bs++numI x)))))]:=⟨fun h=>by
 obtain ⟨rfl,h1,h2⟩:=h
 obtain ⟨m,rfl⟩:∃ m:Nat,x=m:=⟨x.toNat,by omega⟩
 rw [numI_nat]
 exact (num_o g bs m (by omega) h2).one c⟩
theorem or_one (a:Nat):(a * 2||| 1)=a * 2+1:=by
 have:=Nat.shiftLeft_add_eq_or_of_lt (i:=1) (show 1 < 2 ^ 1 by decide) a
 rw [Nat.shiftLeft_eq] at this
 exact this.symm
theorem wint_o (n:Nat) (bs:List Nat) (x:Int) (hx : -9223372036854775808≤x∧x≤9223372036854775807) (h:bs.length≤1000000000):OCall Tryz.prog 149 [.o (.ptr 1000 n 0),.p (.i x)] (memL [(1000,(n+1,some (.abs (wrA bs))))]) (.tup []) (memL [(1000,(n+1,some (.abs (wrA (bs++intB x)))))]):=by
 refine ocall_of1 Tryz.func149 rfl (fun w0 F S0 M0=>?_)
 have hmd:md .u64=18446744073709551616:=rfl
 by_cases h0:0≤x
 ·obtain ⟨q,rfl⟩:∃ q:Nat,x=q:=⟨x.toNat,by omega⟩
  have d1:decide (0≤(q:Int))=true:=decide_eq_true h0
  have e0:q % md .u64 * 2 ^ (1:Int).toNat % md .u64=2 * q:=by
   rw [hmd,show 2 ^ (1:Int).toNat=2 from rfl];omega
  have e:intB (q:Int)=numB (q % md .u64 * 2 ^ (1:Int).toNat % md .u64):=by
   rw [e0];unfold intB zig;rw [if_pos h0];congr 1;try omega
  have b1:q % md .u64 * 2 ^ (1:Int).toNat % md .u64 < 18446744073709551616:=by rw [e0];omega
  rw [e]
  as_aux_lemma=>
   repeat' (first|refine jx5 ?_|refine jy0 ?_ ?_|exact spF|refine spQ fun hq hq'=>?_|refine spN fun hn=>?_|fail)
   exact RetO.mk (res0 rfl rfl) ⟨.abs,trivial⟩
 ·obtain ⟨q,rfl⟩:∃ q:Nat,x = -(q:Int) - 1:=⟨(-x - 1).toNat,by omega⟩
  have d1:decide (0 ≤ -(q:Int) - 1)=false:=decide_eq_false h0
  have hq : -(-(q:Int) - 1) - 1=(q:Int):=by omega
  have e0:(q % md .u64 * 2 ^ (1:Int).toNat % md .u64 % md .u64||| 1 % md .u64)=2 * q+1:=by
   rw [hmd,show 2 ^ (1:Int).toNat=2 from rfl,show q % 18446744073709551616 * 2 % 18446744073709551616 % 18446744073709551616=q * 2 by omega,show 1 % 18446744073709551616=1 from rfl,or_one];omega
  have e:intB (-(q:Int) - 1)=numB (q % md .u64 * 2 ^ (1:Int).toNat % md .u64 % md .u64||| 1 % md .u64):=by
   rw [e0];unfold intB zig;rw [if_neg h0];congr 1;try omega
  have b1:(q % md .u64 * 2 ^ (1:Int).toNat % md .u64 % md .u64||| 1 % md .u64) < 18446744073709551616:=by rw [e0];omega
  rw [e]
  as_aux_lemma=>
   repeat' (first|refine jx5 ?_|refine jy0 ?_ ?_|exact spF|refine spQ fun hq hq'=>?_|refine spN fun hn=>?_|fail)
   exact RetO.mk (res0 rfl rfl) ⟨.abs,trivial⟩
instance wint_i {c g n:Nat} {bs:List Nat} {x:Int}:OC Tryz.prog 149 [.o (.ptr c g 0),.p (.i x)] [(c,(n,some (.abs (wrA bs))))] [] (n=g+1∧(-9223372036854775808≤x∧x≤9223372036854775807)∧bs.length≤1000000000) (.tup []) [(c,(n,some (.abs (wrA (bs++intB x)))))]:=⟨fun h=>by obtain ⟨rfl,h1,h2⟩:=h;exact (wint_o g bs x h1 h2).one c⟩
theorem flat_take {α:Type} [Inhabited α] (f:α→List Nat) {l:List α} {i:Nat} (h:i < l.length):(l.take (i+1)).flatMap f=(l.take i).flatMap f++f (l.getD i default):=by
 rw [List.take_succ_eq_append_getElem h,List.flatMap_append,getD_at h];simp
theorem ren_vV (c:Nat) (v:List Int):AV.ren (rn1 c) (vV v)=vV v:=by
 show AV.a ((v.map _).map _)=_
 rw [List.map_map];rfl
theorem wvec_o (n:Nat) (bs:List Nat) (v:List Int) (hv:v.length=8) (hb:∀ x∈v,0≤x∧x < 18446744073709551616) (h:bs.length≤900000000):OCall Tryz.prog 160 [.o (.ptr 1000 n 0),vV v] (memL [(1000,(n+1,some (.abs (wrA bs))))]) (.tup []) (memL [(1000,(n+1,some (.abs (wrA (bs++vecB v)))))]):=by
 refine ocall_of1 Tryz.func160 rfl (fun w0 F S0 M0=>?_)
 repeat' (first|refine jx5 ?_|refine jy0 ?_ ?_|exact spF|refine spQ fun hq hq'=>?_|refine spN fun hn=>?_|fail)
 refine aws_loopS [5,7,8,9,10,11,12,13] [1000] (fun (x:Nat × List Nat)=>[(7,.p (.i x.1))]) (fun x=>[(1000,(n+1,some (.abs (wrA x.2))))]) (fun x=>x.1≤8∧x.2=bs++(v.take x.1).flatMap numI∧x.2.length≤bs.length+9 * x.1) (fun x=>8 - x.1) (0,bs) ⟨Nat.zero_le _,by simp,by simp⟩ (by exact knA) (by exact knA) ?_
 rintro ⟨i,L⟩ β γ ⟨hi,hL,hl⟩
 dsimp only at hi hL hl ⊢
 by_cases hi8:i < 8
 ·have d1:decide ((i:Int) < 8)=true:=decide_eq_true (by omega)
  have ei:(i:Int).toNat=i:=Int.toNat_natCast i
  have hx:=hb (v.getD (i:Int).toNat default) (by rw [ei,getD_at (by omega)];exact List.getElem_mem _)
  have hs:L++numI (v.getD (i:Int).toNat default)=bs++(v.take (i+1)).flatMap numI:=by rw [ei,flat_take numI (by omega),hL,List.append_assoc]
  have hsl:=numI_len (v.getD (i:Int).toNat default)
  as_aux_lemma=>
   repeat' (first|refine jx5 ?_|refine jy0 ?_ ?_|exact spF|refine spQ fun hq hq'=>?_|refine spN fun hn=>?_|fail)
   exact ⟨(i+1,L++numI (v.getD (i:Int).toNat default)),_,by dsimp only;omega,⟨by dsimp only;omega,hs,by dsimp only;rw [List.length_append];omega⟩,.refl,by exact frA⟩
 ·have d1:decide ((i:Int) < 8)=false:=decide_eq_false (by omega)
  rw [List.take_of_length_le (by omega)] at hL
  rw [show bs++vecB v=L by rw [hL];rfl]
  as_aux_lemma=>
   repeat' (first|refine jx5 ?_|refine jy0 ?_ ?_|exact spF|refine spQ fun hq hq'=>?_|refine spN fun hn=>?_|fail)
   exact RetO.mk (res0 rfl rfl) ⟨.abs,trivial⟩
theorem wtext_o (n:Nat) (bs b:List Nat) (ex:Bool) (hb:b.length≤1000000) (h:bs.length≤900000000):OCall Tryz.prog 100 [.o (.ptr 1000 n 0),.p (.sl 1 (b.map bR) ex)] (memL [(1000,(n+1,some (.abs (wrA bs))))]) (.tup []) (memL [(1000,(n+1,some (.abs (wrA (bs++textB b)))))]):=by
 refine ocall_of1 Tryz.func100 rfl (fun w0 F S0 M0=>?_)
 have hmd:md .u64=18446744073709551616:=rfl
 have e0:b.length % md .u64=b.length:=by rw [hmd];omega
 have b1:b.length % md .u64 < 18446744073709551616:=by rw [e0];omega
 have hsl:=numI_len ((b.length % md .u64:Nat):Int)
 rw [numI_nat] at hsl
 have e:textB b=numB (b.length % md .u64)++b:=by unfold textB;rw [e0]
 rw [e,← List.append_assoc]
 have hl2:(bs++numB (b.length % md .u64)).length≤900000009:=by rw [List.length_append];omega
 refine aws_endS ?_
 repeat' (first|refine jx5 ?_|refine jy0 ?_ ?_|exact spF|refine spQ fun hq hq'=>?_|refine spN fun hn=>?_|fail)
 generalize bs++numB (b.length % md .u64)=L at hl2 ⊢
 refine rn_says (says_unpack' (p:=1000) (o:=901) rfl rfl (List.length_map _) rfl (by decide)) rfl ?_
 as_aux_lemma=>
  repeat' (first|refine jx5 ?_|refine jy0 ?_ ?_|exact spF|refine spQ fun hq hq'=>?_|refine spN fun hn=>?_|fail)
  exact ⟨_,says_pack (p:=1000) (o:=901) (pre:=[]) (post:=[]) rfl rfl rfl rfl (by rw [List.length_map]) (by decide),RetO.mk (res0 rfl rfl) ⟨.abs,trivial⟩⟩
instance wtext_i {c g n:Nat} {bs b:List Nat} {ex:Bool}:OC Tryz.prog 100 [.o (.ptr c g 0),.p (.sl 1 (b.map bR) ex)] [(c,(n,some (.abs (wrA bs))))] [] (n=g+1∧b.length≤1000000∧bs.length≤900000000) (.tup []) [(c,(n,some (.abs (wrA (bs++textB b)))))]:=⟨fun h=>by obtain ⟨rfl,h1,h2⟩:=h;exact (wtext_o g bs b ex h1 h2).one c⟩
end Go.Proofs.YtpgppgehhclfoaaGreat.Wi
