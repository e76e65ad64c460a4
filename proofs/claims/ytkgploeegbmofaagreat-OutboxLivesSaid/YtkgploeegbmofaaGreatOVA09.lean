/- wire: a writer's whole numbers, vectors and texts -/
import Derived.Test.YtkgploeegbmofaaGreatOVA06
import Derived.Test.YtkgploeegbmofaaGreatOVA08
namespace Go.Aw
open Go Go.RowKit
theorem aws_endS {C:Ctx} {Q:Exit→St→Prop} {σ:St} {c:Code} (h:AWs C [c] (fun e s=>∃ τ,Says C s τ∧Q e τ) σ):AWs C [c] Q σ:=by
 have h1:=aws_one h
 intro a w hr
 refine wpIn_mono (h1 a w hr) ?_
 rintro e a' w' ⟨s,⟨τ,h2,h3⟩,h4⟩
 cases e<;>exact ⟨τ,h3,h2 _ _ h4⟩
theorem lop_icomp {C:Ctx} {o:Oper} {σ:St} {t:TypeId} {x:Operand} {n m:Int} (ho:o.op=.unOp .xor t x) (hx:σ.look x=.p (.v (.int .i64 n))) (hn : -9223372036854775808≤n∧n≤9223372036854775807) (hm : -n - 1=m) (hd:dOk C o.dst=true):LOp C o σ ⟨.p (.v (.int .i64 m)),[]⟩ (fun _=>false):=
 lop_val hd fun τ a' w G hl hm' h=>by
  have e1:=val_of h ((hl x (by simp [ho,Op.operands])).trans hx)
  have e3:(BitVec.ofInt 64 (-1) ^^^ BitVec.ofInt 64 n).toNat=2 ^ 64 - 1 - (BitVec.ofInt 64 n).toNat:=by
   rw [show BitVec.ofInt 64 (-1)=BitVec.allOnes 64 by decide,BitVec.allOnes_xor,BitVec.toNat_not]
  have e4:IntKind.i64.wrap ((2 ^ 64 - 1 - (BitVec.ofInt 64 n).toNat:Nat):Int)=m:=by
   rw [BitVec.toNat_ofInt,IntKind.wrap_i64]
   omega
  have e2:(Op.unary .xor (.int .i64 n)).run C.P w=.ok (.int .i64 m) w:=by
   simp only [Op.unary,show IntKind.i64.signed=true from rfl,if_true]
   show (Op.intBits .xor .i64 (-1) n).run C.P w=_
   show Result.ok (Value.int .i64 (IntKind.i64.wrap ((BitVec.ofInt 64 (-1) ^^^ BitVec.ofInt 64 n).toNat:Int))) w=_
   rw [e3,e4]
  exact ⟨_,by simp only [execOp,ho,e1,Sem.run_bind,e2,Result.andThen_ok];rfl,rfl,rfl⟩
end Go.Aw
namespace Go.Proofs.YtkgploeegbmofaaGreat.Wi
open Go Go.RowKit Go.Aw Go.Aw.Cart Go.Proofs.YtkgploeegbmofaaGreat.Ca
set_option linter.unusedVariables false
set_option linter.unusedSimpArgs false
set_option maxRecDepth 8000
set_option maxHeartbeats 4000000
namespace W5
theorem lopC {C:Ctx} {o:Oper} {σ:St} {e:Eff} {ro:Nat→Bool} (h:LOp C o σ e ro:=by
  first|(apply lop_icomp;(focus rfl);(focus rfl);(focus first|assumption|omega);(focus first|assumption|rfl);(focus rfl))|(apply lop_ixv;(focus rfl);(focus exact inferInstance);(focus exact inferInstance);(focus rfl);(focus rfl);(focus exact inferInstance);(focus omega);(focus omega);(focus omega);(focus rfl);(focus rfl);(focus rfl);(focus rfl))|exact W4.lopC|fail):LOp C o σ e ro:=h
section steps
variable {C:Ctx} {ops:Array Oper} {o:Oper} {rest:List Oper} {K:St→Prop} {σ:St} {e:Eff} {ro:Nat→Bool} {W:List (Nat × Nat)} {i:Nat}
theorem rnC {d:Nat} (hg:Guard ops σ o true:=by first|exact gd_n rfl rfl|exact gd_t rfl rfl rfl rfl|exact gd_t rfl rfl rfl (by assumption)) (hd:o.dst=some d:=by rfl) (h:LOp C o σ e ro:=by exact lopC) (hk:RunN C ops rest K (e.app (some d) σ)):RunN C ops (o::rest) K σ:=rn_any hg hd h hk
end steps
end W5
open W5
theorem numI_nat (m:Nat):numI (m:Int)=numB m:=by unfold numI;rw [Int.toNat_natCast]
theorem numI_len (x:Int):(numI x).length≤9:=by
 unfold numI numB
 rw [List.length_cons]
 have:(be x.toNat).length≤8:=beF_le 8 _
 omega
theorem intB_len (x:Int):(intB x).length≤9:=by
 have:=numI_len ((zig x:Nat):Int)
 rwa [numI_nat] at this
theorem flat_len {α:Type} {f:α→List Nat} {k:Nat}:∀ {l:List α},(∀ a∈l,(f a).length≤k)→(l.flatMap f).length≤k * l.length
 | [],_=>by simp
 | a::l,h=>by
  have h1:=h a List.mem_cons_self
  have h2:=flat_len (f:=f) (k:=k) (l:=l) fun x hx=>h x (List.mem_cons_of_mem _ hx)
  rw [List.flatMap_cons,List.length_append,List.length_cons,Nat.mul_succ];omega
theorem entB_len (e:Ent):(entB e).length≤36:=by
 have:=numI_len e.1;have:=numI_len e.2.1;have:=numI_len e.2.2.1;have:=intB_len e.2.2.2
 unfold entB
 rw [List.length_append,List.length_append,List.length_append];omega
theorem cartB_len {v:List Int} {l:List Ent} (hv:vecOk v) (hr:rightF v l=true):(cartB (v,l)).length≤20000:=by
 have hl:l.length≤400:=(ok_iff.1 hr).few
 have h1:(vecB v).length≤9 * v.length:=flat_len fun a _=>numI_len a
 have h2:(l.flatMap entB).length≤36 * l.length:=flat_len fun a _=>entB_len a
 have h3:=numI_len (l.length:Int)
 rw [numI_nat] at h3
 have h8:=hv.1
 unfold cartB
 rw [List.length_append,List.length_append]
 dsimp only
 omega
instance numI_i {c g n:Nat} {bs:List Nat} {x:Int}:OC Tryz.prog 87 [.o (.ptr c g 0),.p (.k .u64 x)] [(c,(n,some (.abs (wrA bs))))] [] (n=g+1∧(0≤x∧x < 18446744073709551616)∧bs.length≤1000000000) (.tup []) [(c,(n,some (.abs (wrA (bs++numI x)))))]:=⟨fun h=>by
 obtain ⟨rfl,h1,h2⟩:=h
 obtain ⟨m,rfl⟩:∃ m:Nat,x=m:=⟨x.toNat,by omega⟩
 rw [numI_nat]
 exact (num_o g bs m (by omega) h2).one c⟩
theorem or_one (a:Nat):(a * 2||| 1)=a * 2+1:=by
 have:=Nat.shiftLeft_add_eq_or_of_lt (i:=1) (show 1 < 2 ^ 1 by decide) a
 rw [Nat.shiftLeft_eq] at this
 exact this.symm
theorem wint_o (n:Nat) (bs:List Nat) (x:Int) (hx : -9223372036854775808≤x∧x≤9223372036854775807) (h:bs.length≤1000000000):OCall Tryz.prog 163 [.o (.ptr 1000 n 0),.p (.i x)] (memL [(1000,(n+1,some (.abs (wrA bs))))]) (.tup []) (memL [(1000,(n+1,some (.abs (wrA (bs++intB x)))))]):=by
 refine ocall_of1 Tryz.func163 rfl (fun w0 F S0 M0=>?_)
 have hmd:md .u64=18446744073709551616:=rfl
 by_cases h0:0≤x
 ·obtain ⟨q,rfl⟩:∃ q:Nat,x=q:=⟨x.toNat,by omega⟩
  have d1:decide (0≤(q:Int))=true:=decide_eq_true h0
  have e0:q % md .u64 * 2 ^ (1:Int).toNat % md .u64=2 * q:=by
   rw [hmd,show 2 ^ (1:Int).toNat=2 from rfl];omega
  have e:intB (q:Int)=numB (q % md .u64 * 2 ^ (1:Int).toNat % md .u64):=by
   rw [e0];unfold intB zig;rw [if_pos h0];congr 1;try omega
  have b1:q % md .u64 * 2 ^ (1:Int).toNat % md .u64 < 18446744073709551616:=by rw [e0];omega
  rw [e]
  as_aux_lemma=>
   repeat' (first|refine jx5 ?_|refine jy0 ?_ ?_|exact spF|refine spQ fun hq hq'=>?_|refine spN fun hn=>?_|fail)
   exact RetO.mk (res0 rfl rfl) ⟨.abs,trivial⟩
 ·obtain ⟨q,rfl⟩:∃ q:Nat,x = -(q:Int) - 1:=⟨(-x - 1).toNat,by omega⟩
  have d1:decide (0 ≤ -(q:Int) - 1)=false:=decide_eq_false h0
  have hq : -(-(q:Int) - 1) - 1=(q:Int):=by omega
  have e0:(q % md .u64 * 2 ^ (1:Int).toNat % md .u64 % md .u64||| 1 % md .u64)=2 * q+1:=by
   rw [hmd,show 2 ^ (1:Int).toNat=2 from rfl,show q % 18446744073709551616 * 2 % 18446744073709551616 % 18446744073709551616=q * 2 by omega,show 1 % 18446744073709551616=1 from rfl,or_one];omega
  have e:intB (-(q:Int) - 1)=numB (q % md .u64 * 2 ^ (1:Int).toNat % md .u64 % md .u64||| 1 % md .u64):=by
   rw [e0];unfold intB zig;rw [if_neg h0];congr 1;try omega
  have b1:(q % md .u64 * 2 ^ (1:Int).toNat % md .u64 % md .u64||| 1 % md .u64) < 18446744073709551616:=by rw [e0];omega
  rw [e]
  as_aux_lemma=>
   repeat' (first|refine jx5 ?_|refine jy0 ?_ ?_|exact spF|refine spQ fun hq hq'=>?_|refine spN fun hn=>?_|fail)
   exact RetO.mk (res0 rfl rfl) ⟨.abs,trivial⟩
instance wint_i {c g n:Nat} {bs:List Nat} {x:Int}:OC Tryz.prog 163 [.o (.ptr c g 0),.p (.i x)] [(c,(n,some (.abs (wrA bs))))] [] (n=g+1∧(-9223372036854775808≤x∧x≤9223372036854775807)∧bs.length≤1000000000) (.tup []) [(c,(n,some (.abs (wrA (bs++intB x)))))]:=⟨fun h=>by obtain ⟨rfl,h1,h2⟩:=h;exact (wint_o g bs x h1 h2).one c⟩
theorem flat_take {α:Type} [Inhabited α] (f:α→List Nat) {l:List α} {i:Nat} (h:i < l.length):(l.take (i+1)).flatMap f=(l.take i).flatMap f++f (l.getD i default):=by
 rw [List.take_succ_eq_append_getElem h,List.flatMap_append,getD_at h];simp
theorem ren_vV (c:Nat) (v:List Int):AV.ren (rn1 c) (vV v)=vV v:=by
 show AV.a ((v.map _).map _)=_
 rw [List.map_map];rfl
theorem wvec_o (n:Nat) (bs:List Nat) (v:List Int) (hv:v.length=8) (hb:∀ x∈v,0≤x∧x < 18446744073709551616) (h:bs.length≤900000000):OCall Tryz.prog 162 [.o (.ptr 1000 n 0),vV v] (memL [(1000,(n+1,some (.abs (wrA bs))))]) (.tup []) (memL [(1000,(n+1,some (.abs (wrA (bs++vecB v)))))]):=by
 refine ocall_of1 Tryz.func162 rfl (fun w0 F S0 M0=>?_)
 repeat' (first|refine jx5 ?_|refine jy0 ?_ ?_|exact spF|refine spQ fun hq hq'=>?_|refine spN fun hn=>?_|fail)
 refine aws_loopS [5,7,8,9,10,11,12,13] [1000] (fun (x:Nat × List Nat)=>[(7,.p (.i x.1))]) (fun x=>[(1000,(n+1,some (.abs (wrA x.2))))]) (fun x=>x.1≤8∧x.2=bs++(v.take x.1).flatMap numI∧x.2.length≤bs.length+9 * x.1) (fun x=>8 - x.1) (0,bs) ⟨Nat.zero_le _,by simp,by simp⟩ (by exact knA) (by exact knA) ?_
 rintro ⟨i,L⟩ β γ ⟨hi,hL,hl⟩
 dsimp only at hi hL hl ⊢
 by_cases hi8:i < 8
 ·have d1:decide ((i:Int) < 8)=true:=decide_eq_true (by omega)
  have ei:(i:Int).toNat=i:=Int.toNat_natCast i
  have hx:=hb (v.getD (i:Int).toNat default) (by rw [ei,getD_at (by omega)];exact List.getElem_mem _)
  have hs:L++numI (v.getD (i:Int).toNat default)=bs++(v.take (i+1)).flatMap numI:=by rw [ei,flat_take numI (by omega),hL,List.append_assoc]
  have hsl:=numI_len (v.getD (i:Int).toNat default)
  as_aux_lemma=>
   repeat' (first|refine jx5 ?_|refine jy0 ?_ ?_|exact spF|refine spQ fun hq hq'=>?_|refine spN fun hn=>?_|fail)
   exact ⟨(i+1,L++numI (v.getD (i:Int).toNat default)),_,by dsimp only;omega,⟨by dsimp only;omega,hs,by dsimp only;rw [List.length_append];omega⟩,.refl,by exact frA⟩
 ·have d1:decide ((i:Int) < 8)=false:=decide_eq_false (by omega)
  rw [List.take_of_length_le (by omega)] at hL
  rw [show bs++vecB v=L by rw [hL];rfl]
  as_aux_lemma=>
   repeat' (first|refine jx5 ?_|refine jy0 ?_ ?_|exact spF|refine spQ fun hq hq'=>?_|refine spN fun hn=>?_|fail)
   exact RetO.mk (res0 rfl rfl) ⟨.abs,trivial⟩
theorem wtext_o (n:Nat) (bs b:List Nat) (ex:Bool) (hb:b.length≤1000000) (h:bs.length≤900000000):OCall Tryz.prog 129 [.o (.ptr 1000 n 0),.p (.sl 1 (b.map bR) ex)] (memL [(1000,(n+1,some (.abs (wrA bs))))]) (.tup []) (memL [(1000,(n+1,some (.abs (wrA (bs++textB b)))))]):=by
 refine ocall_of1 Tryz.func129 rfl (fun w0 F S0 M0=>?_)
 have hmd:md .u64=18446744073709551616:=rfl
 have e0:b.length % md .u64=b.length:=by rw [hmd];omega
 have b1:b.length % md .u64 < 18446744073709551616:=by rw [e0];omega
 have hsl:=numI_len ((b.length % md .u64:Nat):Int)
 rw [numI_nat] at hsl
 have e:textB b=numB (b.length % md .u64)++b:=by unfold textB;rw [e0]
 rw [e,← List.append_assoc]
 have hl2:(bs++numB (b.length % md .u64)).length≤900000009:=by rw [List.length_append];omega
 refine aws_endS ?_
 repeat' (first|refine jx5 ?_|refine jy0 ?_ ?_|exact spF|refine spQ fun hq hq'=>?_|refine spN fun hn=>?_|fail)
 generalize bs++numB (b.length % md .u64)=L at hl2 ⊢
 refine rn_says (says_unpack' (p:=1000) (o:=901) rfl rfl (List.length_map _) rfl (by decide)) rfl ?_
 as_aux_lemma=>
  repeat' (first|refine jx5 ?_|refine jy0 ?_ ?_|exact spF|refine spQ fun hq hq'=>?_|refine spN fun hn=>?_|fail)
  exact ⟨_,says_pack (p:=1000) (o:=901) (pre:=[]) (post:=[]) rfl rfl rfl rfl (by rw [List.length_map]) (by decide),RetO.mk (res0 rfl rfl) ⟨.abs,trivial⟩⟩
instance wtext_i {c g n:Nat} {bs b:List Nat} {ex:Bool}:OC Tryz.prog 129 [.o (.ptr c g 0),.p (.sl 1 (b.map bR) ex)] [(c,(n,some (.abs (wrA bs))))] [] (n=g+1∧b.length≤1000000∧bs.length≤900000000) (.tup []) [(c,(n,some (.abs (wrA (bs++textB b)))))]:=⟨fun h=>by obtain ⟨rfl,h1,h2⟩:=h;exact (wtext_o g bs b ex h1 h2).one c⟩
end Go.Proofs.YtkgploeegbmofaaGreat.Wi
namespace Go.Proofs.YtkgploeegbmofaaGreat.Wi
open Go Go.RowKit Go.Aw Go.Aw.Cart Go.Proofs.YtkgploeegbmofaaGreat.Ca
set_option linter.unusedVariables false
set_option linter.unusedSimpArgs false
set_option maxRecDepth 8000
set_option maxHeartbeats 4000000
theorem lop_conv_a {C:Ctx} {o:Oper} {σ:St} {s d:TypeId} {x:Operand} {k k':IntKind} {n m:Int} {sz by_:Nat} {ks:TK} {sz' by':Nat} (ho:o.op=.convert s d x) (hT:TI C.P d (.int k') sz by_) (hS:TI C.P s ks sz' by') (hx:σ.look x=.p (.v (.int k n))) (hw:k'.wrap n=m) (hd:dOk C o.dst=true):LOp C o σ ⟨.p (.v (.int k' m)),[]⟩ (fun _=>false):=by
 have:=lop_conv ho hx hd;rwa [hw] at this
namespace W6
theorem lopC {C:Ctx} {o:Oper} {σ:St} {e:Eff} {ro:Nat→Bool} (h:LOp C o σ e ro:=by
  first|(apply lop_conv_a;(focus rfl);(focus exact inferInstance);(focus exact inferInstance);(focus rfl);(focus assumption);(focus rfl))|exact W5.lopC|fail):LOp C o σ e ro:=h
section steps
variable {C:Ctx} {ops:Array Oper} {o:Oper} {rest:List Oper} {K:St→Prop} {σ:St} {e:Eff} {ro:Nat→Bool} {W:List (Nat × Nat)} {i:Nat}
theorem rnC {d:Nat} (hg:Guard ops σ o true:=by first|exact gd_n rfl rfl|exact gd_t rfl rfl rfl rfl|exact gd_t rfl rfl rfl (by assumption)) (hd:o.dst=some d:=by rfl) (h:LOp C o σ e ro:=by exact lopC) (hk:RunN C ops rest K (e.app (some d) σ)):RunN C ops (o::rest) K σ:=rn_any hg hd h hk
end steps
end W6
open W6
abbrev rdOk (r:RS):Prop:=(∀ b∈r.1,b < 256)∧r.1.length≤1000000000
theorem Par.rd {α:Type} {P:RS→α × RS} (h:Par P) {r:RS} (hr:rdOk r):rdOk (P r).2:=⟨h.byte hr.1,Nat.le_trans (h.len r) hr.2⟩
theorem end_o (n:Nat) (r:RS):OCall Tryz.prog 137 [.o (.ptr 1000 n 0)] (memL [(1000,(n+1,some (rdM r)))]) (.p (.i (endS r))) (memL [(1000,(n+1,some (rdM r)))]):=by
 refine ocall_of1 Tryz.func137 rfl (fun w0 F S0 M0=>?_)
 unfold endS
 by_cases h:r.2=0
 ·have d1:decide (r.2≠0)=false:=decide_eq_false fun q=>q h
  rw [if_neg (fun q=>q h)]
  by_cases hl:0 < r.1.length
  ·have d2:decide (0 < (r.1.length:Int))=true:=decide_eq_true (by omega)
   rw [if_pos hl]
   as_aux_lemma=>
    repeat' (first|refine jx6 ?_|refine jy0 ?_ ?_|exact spF|refine spQ fun hq hq'=>?_|refine spN fun hn=>?_|fail)
    exact RetO.mk (ot1 rfl rfl finS_p rfl) ⟨.box finL_p,trivial⟩
  ·have d2:decide (0 < (r.1.length:Int))=false:=decide_eq_false (by omega)
   rw [if_neg hl]
   as_aux_lemma=>
    repeat' (first|refine jx6 ?_|refine jy0 ?_ ?_|exact spF|refine spQ fun hq hq'=>?_|refine spN fun hn=>?_|fail)
    exact RetO.mk (ot1 rfl rfl finS_p rfl) ⟨.box finL_p,trivial⟩
 ·have d1:decide (r.2≠0)=true:=decide_eq_true h
  rw [if_pos h]
  as_aux_lemma=>
   repeat' (first|refine jx6 ?_|refine jy0 ?_ ?_|exact spF|refine spQ fun hq hq'=>?_|refine spN fun hn=>?_|fail)
   exact RetO.mk (ot1 rfl rfl finS_p rfl) ⟨.box finL_p,trivial⟩
instance end_i {c g n:Nat} {r:RS}:OC Tryz.prog 137 [.o (.ptr c g 0)] [(c,(n,some (rdM r)))] [] (n=g+1) (.p (.i (endS r))) [(c,(n,some (rdM r)))]:=⟨fun h=>by subst h;exact (end_o g r).one c⟩
theorem rint_o (n:Nat) (r:RS) (hr:rdOk r):OCall Tryz.prog 184 [.o (.ptr 1000 n 0)] (memL [(1000,(n+1,some (rdM r)))]) (.p (.i (intS r).1)) (memL [(1000,(n+1,some (rdM (intS r).2)))]):=by
 refine ocall_of1 Tryz.func184 rfl (fun w0 F S0 M0=>?_)
 have hmd:md .u64=18446744073709551616:=rfl
 have hf:=numS_fit hr.1
 have eI:intS r=okS (unz (numS r).1) 0 (mustS (zOk (numS r).1) (numS r).2):=rfl
 rw [eI]
 haveI:∀ c g m:Nat,OC Tryz.prog 132 [.o (.ptr c g 0)] [(c,(m,some (rdM r)))] [] (m=g+1) (.p (.k .u64 ((numS r).1:Int))) [(c,(m,some (rdM (numS r).2)))]:=fun c g m=>⟨fun h=>by obtain rfl:=h;exact (rnum_o g r hr.1 hr.2).one c⟩
 generalize numS r=q at hf ⊢ this
 obtain ⟨x,r1⟩:=q
 dsimp only at hf ⊢ this
 have hand:(x % md .u64&&& 1 % md .u64)=x % 2:=by
  rw [hmd,show x % 18446744073709551616=x by omega,show 1 % 18446744073709551616=2 ^ 1 - 1 from rfl,Nat.and_two_pow_sub_one_eq_mod]
 have hK:x / 2 ^ (1:Int).toNat=x / 2:=rfl
 have hw:IntKind.i64.wrap ((x / 2 ^ (1:Int).toNat:Nat):Int)=((x / 2:Nat):Int):=by rw [hK];exact IntWalk.i64_in _ (by omega)
 have hcn : -9223372036854775808≤((x / 2:Nat):Int)∧((x / 2:Nat):Int)≤9223372036854775807:=by omega
 have fin:∀ r2:RS,okS (unz x) 0 r2=(if r2.2=0 then unz x else 0,r2):=fun _=>rfl
 rw [fin]
 unfold zOk
 by_cases he:x % 2=0
 ·have d1:decide (((x % md .u64&&& 1 % md .u64:Nat):Int)=0)=true:=decide_eq_true (by rw [hand];omega)
  have d4:decide (((x % md .u64&&& 1 % md .u64:Nat):Int)=1)=false:=decide_eq_false (by rw [hand];omega)
  have e2:decide (x / 2≤4611686018427387904)=decide (((x / 2 ^ (1:Int).toNat:Nat):Int)≤4611686018427387904):=by rw [hK];exact decide_eq_decide.2 (by omega)
  have eu:unz x=((x / 2:Nat):Int):=by unfold unz;rw [if_neg (by omega)]
  rw [if_pos he,e2,eu]
  by_cases hz:(mustS (decide (((x / 2 ^ (1:Int).toNat:Nat):Int)≤4611686018427387904)) r1).2=0
  ·have d2:decide ((mustS (decide (((x / 2 ^ (1:Int).toNat:Nat):Int)≤4611686018427387904)) r1).2≠0)=false:=decide_eq_false fun q=>q hz
   rw [if_pos hz]
   as_aux_lemma=>
    repeat' (first|refine jx5 ?_|refine jy0 ?_ ?_|exact spF|refine spQ fun hq hq'=>?_|refine spN fun hn=>?_|fail)
    exact RetO.mk (ot1 rfl rfl finS_p rfl) ⟨.box finL_p,trivial⟩
  ·have d2:decide ((mustS (decide (((x / 2 ^ (1:Int).toNat:Nat):Int)≤4611686018427387904)) r1).2≠0)=true:=decide_eq_true hz
   rw [if_neg hz]
   as_aux_lemma=>
    repeat' (first|refine jx5 ?_|refine jy0 ?_ ?_|exact spF|refine spQ fun hq hq'=>?_|refine spN fun hn=>?_|fail)
    exact RetO.mk (ot1 rfl rfl finS_p rfl) ⟨.box finL_p,trivial⟩
 ·have d1:decide (((x % md .u64&&& 1 % md .u64:Nat):Int)=0)=false:=decide_eq_false (by rw [hand];omega)
  have d4:decide (((x % md .u64&&& 1 % md .u64:Nat):Int)=1)=true:=decide_eq_true (by rw [hand];omega)
  have e2:decide (x / 2 < 4611686018427387904)=decide (((x / 2 ^ (1:Int).toNat:Nat):Int) < 4611686018427387904):=by rw [hK];exact decide_eq_decide.2 (by omega)
  have eu:unz x = -((x / 2:Nat):Int) - 1:=by unfold unz;rw [if_pos (by omega)]
  rw [if_neg he,e2,eu]
  by_cases hz:(mustS (decide (((x / 2 ^ (1:Int).toNat:Nat):Int) < 4611686018427387904)) r1).2=0
  ·have d2:decide ((mustS (decide (((x / 2 ^ (1:Int).toNat:Nat):Int) < 4611686018427387904)) r1).2≠0)=false:=decide_eq_false fun q=>q hz
   rw [if_pos hz]
   as_aux_lemma=>
    repeat' (first|refine jx5 ?_|refine jy0 ?_ ?_|exact spF|refine spQ fun hq hq'=>?_|refine spN fun hn=>?_|fail)
    exact RetO.mk (ot1 rfl rfl finS_p rfl) ⟨.box finL_p,trivial⟩
  ·have d2:decide ((mustS (decide (((x / 2 ^ (1:Int).toNat:Nat):Int) < 4611686018427387904)) r1).2≠0)=true:=decide_eq_true hz
   rw [if_neg hz]
   as_aux_lemma=>
    repeat' (first|refine jx5 ?_|refine jy0 ?_ ?_|exact spF|refine spQ fun hq hq'=>?_|refine spN fun hn=>?_|fail)
    exact RetO.mk (ot1 rfl rfl finS_p rfl) ⟨.box finL_p,trivial⟩
theorem small_nat (most:Int) (r:RS):∃ k:Nat,(smallS most r).1=k:=by
 unfold smallS
 dsimp only
 split
 ·exact ⟨_,rfl⟩
 ·exact ⟨0,rfl⟩
theorem rtext_o (n:Nat) (r:RS) (most:Int) (hm:most≤9223372036854775807) (hr:rdOk r):OCall Tryz.prog 135 [.o (.ptr 1000 n 0),.p (.i most)] (memL [(1000,(n+1,some (rdM r)))]) (.p (.sl 1 ((textS most r).1.map bR) false)) (memL [(1000,(n+1,some (rdM (textS most r).2)))]):=by
 refine ocall_of1 Tryz.func135 rfl (fun w0 F S0 M0=>?_)
 obtain ⟨k,hk⟩:=small_nat most r
 have e:textS most r=takeS k (smallS most r).2:=by
  show takeS (smallS most r).1.toNat (smallS most r).2=_
  rw [hk,Int.toNat_natCast]
 rw [e]
 haveI:∀ c g m:Nat,OC Tryz.prog 92 [.o (.ptr c g 0),.p (.i most)] [(c,(m,some (rdM r)))] [] (m=g+1) (.p (.i (k:Int))) [(c,(m,some (rdM (smallS most r).2)))]:=fun c g m=>⟨fun h=>by obtain rfl:=h;rw [← hk];exact (small_o g r most hm hr.1 hr.2).one c⟩
 have h2:=(par_small most).rd hr
 have h3:(takeS k (smallS most r).2).1.length≤1000000000:=Nat.le_trans take_len.2.1 h2.2
 generalize (smallS most r).2=r2 at h2 h3 ⊢ this
 as_aux_lemma=>
  repeat' (first|refine jx5 ?_|refine jy0 ?_ ?_|exact spF|refine spQ fun hq hq'=>?_|refine spN fun hn=>?_|fail)
  exact RetO.mk (ot1 rfl rfl finS_p rfl) ⟨.box finL_p,trivial⟩
theorem set_rep (A:List Int) (k:Nat) (n z:Int):(A++List.replicate (k+1) z).set A.length n=(A++[n])++List.replicate k z:=by
 rw [List.replicate_succ,List.set_append_right _ _ (Nat.le_refl _),Nat.sub_self,List.set_cons_zero,List.append_assoc];rfl
theorem rvec_o (n:Nat) (r:RS) (hr:rdOk r):OCall Tryz.prog 164 [.o (.ptr 1000 n 0)] (memL [(1000,(n+1,some (rdM r)))]) (vV (vecS r).1) (memL [(1000,(n+1,some (rdM (vecS r).2)))]):=by
 refine ocall_of1 Tryz.func164 rfl (fun w0 F S0 M0=>?_)
 have eV:vecS r=(if (allS numZ 8 r).2.2=0 then (allS numZ 8 r).1 else zeroV,(allS numZ 8 r).2):=rfl
 rw [eV]
 repeat' (first|refine jx5 ?_|refine jy0 ?_ ?_|exact spF|refine spQ fun hq hq'=>?_|refine spN fun hn=>?_|fail)
 refine aws_loopS [4,5,6,7,8,9,10,11,12] [1000,3] (fun (x:Nat × List Int × RS)=>[(5,.p (.i x.1))]) (fun x=>[(1000,(n+1,some (rdM x.2.2))),(3,(1,some (.box 118 (x.2.1.map fun n=>AC.p (.k .u64 n)))))])
  (fun x=>x.1≤8∧x.2.1=(allS numZ x.1 r).1++List.replicate (8 - x.1) 0∧x.2.2=(allS numZ x.1 r).2) (fun x=>8 - x.1) (0,zeroV,r) ⟨Nat.zero_le _,rfl,rfl⟩ (by exact knA) (by exact knA) ?_
 rintro ⟨i,u,r1⟩ β γ ⟨hi,hu,h1⟩
 dsimp only at hi hu h1 ⊢
 have la:=all_len numZ i r
 have lu:u.length=8:=by rw [hu,List.length_append,List.length_replicate,la];omega
 by_cases hi8:i < 8
 ·have d1:decide ((i:Int) < 8)=true:=decide_eq_true (by omega)
  have hr1:rdOk r1:=by rw [h1];exact (par_all par_numZ i).rd hr
  have hb1:=hr1.1
  have hl1:=hr1.2
  have hs1:u.set (i:Int).toNat ((numS r1).1:Int)=(allS numZ (i+1) r).1++List.replicate (8 - (i+1)) 0:=by
   rw [Int.toNat_natCast,hu,show 8 - i=(8 - (i+1))+1 by omega]
   have:=set_rep (allS numZ i r).1 (8 - (i+1)) ((numS r1).1:Int) 0
   rw [la] at this
   rw [this,h1]
   rfl
  have hs2:(numS r1).2=(allS numZ (i+1) r).2:=by rw [h1];rfl
  as_aux_lemma=>
   repeat' (first|refine jx5 ?_|refine jy0 ?_ ?_|exact spF|refine spQ fun hq hq'=>?_|refine spN fun hn=>?_|fail)
   exact ⟨(i+1,u.set (i:Int).toNat ((numS r1).1:Int),(numS r1).2),_,by dsimp only;omega,⟨by dsimp only;omega,hs1,hs2⟩,.refl,by exact frA⟩
 ·have d1:decide ((i:Int) < 8)=false:=decide_eq_false (by omega)
  obtain rfl:i=8:=by omega
  rw [← h1]
  have hu':u=(allS numZ 8 r).1:=by rw [hu];simp
  rw [← hu']
  by_cases hz:r1.2=0
  ·have d2:decide (r1.2≠0)=false:=decide_eq_false fun q=>q hz
   rw [if_pos hz]
   clear eV hu hu' h1 hz
   as_aux_lemma=>
    repeat' (first|refine jx5 ?_|refine jy0 ?_ ?_|exact spF|refine spQ fun hq hq'=>?_|refine spN fun hn=>?_|fail)
    exact RetO.mk (oc1 rfl rfl rfl rfl rfl (by rw [List.length_map];exact lu) finL_p rfl) ⟨.box finL_p,trivial⟩
  ·have d2:decide (r1.2≠0)=true:=decide_eq_true hz
   rw [if_neg hz]
   clear eV hu hu' h1 hz
   as_aux_lemma=>
    repeat' (first|refine jx5 ?_|refine jy0 ?_ ?_|exact spF|refine spQ fun hq hq'=>?_|refine spN fun hn=>?_|fail)
    exact RetO.mk (oc1 rfl rfl rfl rfl rfl rfl finL_p rfl) ⟨.box finL_p,trivial⟩
end Go.Proofs.YtkgploeegbmofaaGreat.Wi
namespace Go.Proofs.YtkgploeegbmofaaGreat.Wi
open Go Go.RowKit Go.Aw Go.Aw.Cart Go.Proofs.YtkgploeegbmofaaGreat.Ca
set_option linter.unusedVariables false
set_option linter.unusedSimpArgs false
set_option maxRecDepth 8000
set_option maxHeartbeats 4000000
theorem says_wr0 {C:Ctx} {σ:St} {p np ty tyB es:Nat} (hp:σ.mem p=(np,some (.box ty [.p (.v (.slice none 0 0))]))) (hes:0 < es):Says C σ (σ.put p (np,some (.abs (pkA ty [] [] tyB es [])))):=by
 rintro a w ⟨G,h⟩
 obtain ⟨g,m,hg,hmm,b,arr,h1,h2,h3,h4⟩:=h.mem p _ _ hp
 have hlen:(G.μ p).length=np:=by have:=h.gens p;rw [hp] at this;exact this
 refine ⟨_,h.upd (o:=p) (n':=np) (mo':=some (.abs (pkA ty [] [] tyB es []))) (μo:=G.μ p) (fp':=G.φ p) (w':=w) (fun g x hx=>hx) hlen rfl .same rfl (Nat.le_refl _) (fun _ _ _=>rfl) (fun b hb=>⟨.inl hb,(h.own p b hb).2⟩) (fun mo1 hmo=>?_)⟩
 obtain rfl:=Option.some.inj hmo
 obtain ⟨x,l,rfl,k1,k2⟩:=h4.cons_inv
 obtain rfl:=k2.nil_inv
 obtain ⟨rfl,_⟩:=k1
 exact ⟨g,m,hg,hmm,b,h1,none,0,[],[],[],h3,h2,by simp,.nil,.nil,hes,by simp [maxLen],Nat.le_refl _,.inl ⟨rfl,rfl,rfl⟩⟩
theorem says_wr {C:Ctx} {σ:St} {p np:Nat} (hp:σ.mem p=(np,some (.box 156 [.p (.v (.slice none 0 0))]))):Says C σ (σ.put p (np,some (.abs (wrA [])))):=says_wr0 hp (by decide)
abbrev v8L (v:List Int):List AC:=[.p (.k .u64 (v.getD 0 default)),.p (.k .u64 (v.getD 1 default)),.p (.k .u64 (v.getD 2 default)),.p (.k .u64 (v.getD 3 default)),.p (.k .u64 (v.getD 4 default)),.p (.k .u64 (v.getD 5 default)),.p (.k .u64 (v.getD 6 default)),.p (.k .u64 (v.getD 7 default))]
theorem vV8 {v:List Int} (h:v.length=8):vV v=.a (v8L v):=by
 show AV.a (v.map _)=_
 conv=>lhs;rw [v8_eq h]
 rfl
namespace W7
theorem lopC {C:Ctx} {o:Oper} {σ:St} {e:Eff} {ro:Nat→Bool} (h:LOp C o σ e ro:=by
  first
   | exact lopV
   | exact W6.lopC
   | (apply lop_call1;(focus rfl);(focus exact inferInstance);(focus exact lk_cart rfl);(focus exact inferInstance);(focus exact inferInstance);(focus first|exact True.intro|assumption|rfl|omega|((repeat' (first|assumption|refine And.intro ?_ ?_|omega|rfl));done)|fail);(focus rfl))
      | (apply lop_call2;(focus rfl);(focus exact inferInstance);(focus exact lk_cart rfl);(focus exact lk_cart rfl);(focus exact inferInstance);(focus exact inferInstance);(focus first|exact True.intro|assumption|rfl|omega|((repeat' (first|assumption|refine And.intro ?_ ?_|omega|rfl));done)|fail);(focus rfl))
      | (apply lop_call2;(focus rfl);(focus exact inferInstance);(focus exact lk_cart rfl);(focus first|exact lk_m1 rfl|exact lk_m2 rfl|exact lk_m3 rfl|exact lk_o rfl|exact lk_a2 rfl|exact lk_a3 rfl|exact lk_a4 rfl|exact lk_a1 rfl|exact lk_a5 rfl|exact lk_a6 rfl|exact lk_a7 rfl|exact lk_a8 rfl|exact lk_a rfl);(focus exact inferInstance);(focus exact inferInstance);(focus first|exact True.intro|assumption|rfl|omega|((repeat' (first|assumption|refine And.intro ?_ ?_|omega|rfl));done)|fail);(focus rfl))
   | fail):LOp C o σ e ro:=h
section steps
variable {C:Ctx} {ops:Array Oper} {o:Oper} {rest:List Oper} {K:St→Prop} {σ:St} {e:Eff} {ro:Nat→Bool} {W:List (Nat × Nat)} {i:Nat}
theorem rnC {d:Nat} (hg:Guard ops σ o true:=by first|exact gd_n rfl rfl|exact gd_t rfl rfl rfl rfl|exact gd_t rfl rfl rfl (by assumption)) (hd:o.dst=some d:=by rfl) (h:LOp C o σ e ro:=by exact lopC) (hk:RunN C ops rest K (e.app (some d) σ)):RunN C ops (o::rest) K σ:=rn_any hg hd h hk
end steps
end W7
open W7
theorem put_ok (n:Nat) (bs:List Nat) (v:List Int) (l:List Ent) (ex:Bool) (hv:vecOk v) (hr:rightF v l=true) (h:bs.length≤800000000):OCall Tryz.prog 130 [.o (.ptr 1000 n 0),cV v l ex] (memL [(1000,(n+1,some (.abs (wrA bs))))]) (.tup []) (memL [(1000,(n+1,some (.abs (wrA (bs++cartB (v,l))))))]):=by
 refine ocall_of1 Tryz.func130 rfl (fun w0 F S0 M0=>?_)
 have h8:=hv.1
 have hl:l.length≤400:=(ok_iff.1 hr).few
 have hes:=ok_ents (c:=(v,l)) hr hv
 haveI:PC Tryz.prog 66 [cV v l ex] True (.p (.b true)):=⟨fun _=>by have:=right_w v l ex h8 (by omega);rwa [hr] at this⟩
 have d1:(!true)=false:=rfl
 have hvl:(vecB v).length≤72:=by
  obtain ⟨a0,a1,a2,a3,a4,a5,a6,a7,rfl⟩:∃ a0 a1 a2 a3 a4 a5 a6 a7,v=[a0,a1,a2,a3,a4,a5,a6,a7]:=⟨_,_,_,_,_,_,_,_,v8_eq h8⟩
  have:=numI_len a0;have:=numI_len a1;have:=numI_len a2;have:=numI_len a3;have:=numI_len a4;have:=numI_len a5;have:=numI_len a6;have:=numI_len a7
  simp only [vecB,List.flatMap_cons,List.flatMap_nil,List.length_append,List.length_nil]
  omega
 haveI:∀ c g m:Nat,OC Tryz.prog 162 [.o (.ptr c g 0),.a (v8L v)] [(c,(m,some (.abs (wrA bs))))] [] (m=g+1) (.tup []) [(c,(m,some (.abs (wrA (bs++vecB v)))))]:=fun c g m=>⟨fun hm=>by
  obtain rfl:=hm
  rw [← vV8 h8]
  have:=(wvec_o g bs v h8 hv.2 (by omega)).one c
  rw [List.map_cons,List.map_cons,ren_vV] at this
  exact this⟩
 have b1:l.length < 18446744073709551616:=by omega
 have hnl:=numI_len (l.length:Int)
 rw [numI_nat] at hnl
 have hB:cartB (v,l)=vecB v++numB l.length++l.flatMap entB:=by unfold cartB;rw [List.append_assoc]
 have hB0:(bs++vecB v).length≤1000000000:=by rw [List.length_append];omega
 rw [hB,← List.append_assoc,← List.append_assoc]
 repeat' (first|refine jx5 ?_|refine jy0 ?_ ?_|exact spF|refine spQ fun hq hq'=>?_|refine spN fun hn=>?_|fail)
 have hB1:(bs++vecB v++numB l.length).length≤800000100:=by rw [List.length_append,List.length_append];omega
 generalize bs++vecB v++numB l.length=B0 at hB1 ⊢
 refine aws_loopS [5,22,23,24,25,26,27,28,29,30,31,32,33,34,35,36,37,38,39,40,41,42,43,44] [1000,5] (fun (x:Nat × List Nat × Option MO)=>[(22,.p (.i x.1))]) (fun x=>[(1000,(n+1,some (.abs (wrA x.2.1)))),(5,(x.1,x.2.2))]) (fun x=>x.1≤l.length∧x.2.1=B0++(l.take x.1).flatMap entB∧x.2.1.length≤B0.length+36 * x.1) (fun x=>l.length - x.1) (0,B0,none) ⟨Nat.zero_le _,by simp,by simp⟩ (by exact knA) (by exact knA) ?_
 rintro ⟨i,L,c5⟩ β γ ⟨hi,hL,hll⟩
 dsimp only at hi hL hll ⊢
 by_cases hil:i < l.length
 ·have d2:decide ((i:Int) < (l.length:Int))=true:=decide_eq_true (by omega)
  have ei:(i:Int).toNat=i:=Int.toNat_natCast i
  have hft:=flat_take entB hil
  rw [← ei] at hft
  obtain ⟨e,he⟩:∃ e,e=l.getD (i:Int).toNat default:=⟨_,rfl⟩
  have hek:=hes e (by rw [he,ei,getD_at hil];exact List.getElem_mem _)
  obtain ⟨k1,k2,k3,k4⟩:=hek
  have n1:=numI_len e.1
  have n2:=numI_len e.2.1
  have n3:=numI_len e.2.2.1
  have n4:=numI_len ((zig e.2.2.2:Nat):Int)
  rw [numI_nat] at n4
  have n4':(intB e.2.2.2).length≤9:=n4
  have g1:L.length≤1000000000:=by omega
  have g2:(L++numI e.1).length≤1000000000:=by rw [List.length_append];omega
  have g3:(L++numI e.1++numI e.2.1).length≤1000000000:=by rw [List.length_append,List.length_append];omega
  have g4:(L++numI e.1++numI e.2.1++numI e.2.2.1).length≤1000000000:=by rw [List.length_append,List.length_append,List.length_append];omega
  have g5:(L++numI e.1++numI e.2.1++numI e.2.2.1++intB e.2.2.2).length≤B0.length+36 * (i+1):=by rw [List.length_append,List.length_append,List.length_append,List.length_append];omega
  have hn:L++numI e.1++numI e.2.1++numI e.2.2.1++intB e.2.2.2=B0++(l.take (i+1)).flatMap entB:=by
   rw [show (i:Int).toNat=i from ei] at hft he
   rw [hft,hL,← he]
   simp only [entB,List.append_assoc]
  have w1:IntKind.u64.wrap e.1=e.1:=u64_in (by omega)
  have w2:IntKind.u64.wrap e.2.1=e.2.1:=u64_in (by omega)
  have k1':0≤e.1∧e.1 < 18446744073709551616:=by omega
  have k2':0≤e.2.1∧e.2.1 < 18446744073709551616:=by omega
  have k4' : -9223372036854775808≤e.2.2.2∧e.2.2.2≤9223372036854775807:=by omega
  clear hft hL n1 n2 n3 n4 n4' k1 k2 k4
  subst he
  as_aux_lemma=>
   repeat' (first|refine jx5 ?_|refine jy0 ?_ ?_|exact spF|refine spQ fun hq hq'=>?_|refine spN fun hn=>?_|fail)
   exact ⟨(i+1,_,_),_,by dsimp only;omega,⟨by dsimp only;omega,hn,g5⟩,.refl,by exact frA⟩
 ·have d2:decide ((i:Int) < (l.length:Int))=false:=decide_eq_false (by omega)
  rw [List.take_of_length_le (by omega)] at hL
  rw [← hL]
  as_aux_lemma=>
   repeat' (first|refine jx5 ?_|refine jy0 ?_ ?_|exact spF|refine spQ fun hq hq'=>?_|refine spN fun hn=>?_|fail)
   exact RetO.mk (res0 rfl rfl) ⟨.abs,trivial⟩
instance put_i {c g n:Nat} {bs:List Nat} {v:List Int} {l:List Ent} {ex:Bool}:OC Tryz.prog 130 [.o (.ptr c g 0),cV v l ex] [(c,(n,some (.abs (wrA bs))))] [] (n=g+1∧vecOk v∧rightF v l=true∧bs.length≤800000000) (.tup []) [(c,(n,some (.abs (wrA (bs++cartB (v,l))))))]:=⟨fun h=>by obtain ⟨rfl,h1,h2,h3⟩:=h;exact (put_ok g bs v l ex h1 h2 h3).one c⟩
end Go.Proofs.YtkgploeegbmofaaGreat.Wi
namespace Go.Proofs.YtkgploeegbmofaaGreat.Wi
open Go Go.RowKit Go.Aw Go.Aw.Cart Go.Proofs.YtkgploeegbmofaaGreat.Ca
set_option linter.unusedVariables false
set_option linter.unusedSimpArgs false
set_option maxRecDepth 8000
set_option maxHeartbeats 4000000
open W7
theorem entry_o (n:Nat) (r:RS) (hr:rdOk r):OCall Tryz.prog 165 [.o (.ptr 1000 n 0)] (memL [(1000,(n+1,some (rdM r)))]) (eV (entS r).1) (memL [(1000,(n+1,some (rdM (entS r).2)))]):=by
 refine ocall_of1 Tryz.func165 rfl (fun w0 F S0 M0=>?_)
 obtain ⟨a,r1,h1⟩:∃ a r1,smallS 60 r=(a,r1):=⟨(smallS 60 r).1,(smallS 60 r).2,rfl⟩
 have o1:rdOk r1:=by have:=(par_small 60).rd hr;rwa [h1] at this
 obtain ⟨b,r2,h2⟩:∃ b r2,smallS 8 r1=(b,r2):=⟨(smallS 8 r1).1,(smallS 8 r1).2,rfl⟩
 have o2:rdOk r2:=by have:=(par_small 8).rd o1;rwa [h2] at this
 obtain ⟨c,r3,h3⟩:∃ c r3,numS r2=(c,r3):=⟨(numS r2).1,(numS r2).2,rfl⟩
 have o3:rdOk r3:=by have:=par_num.rd o2;rwa [h3] at this
 obtain ⟨d,r4,h4⟩:∃ d r4,intS r3=(d,r4):=⟨(intS r3).1,(intS r3).2,rfl⟩
 have e:entS r=((a,b,(c:Int),d),r4):=by
  simp only [entS,numZ,bindS,pureS,h1,h2,h3,h4]
 rw [e]
 haveI:∀ p g m:Nat,OC Tryz.prog 92 [.o (.ptr p g 0),.p (.i 60)] [(p,(m,some (rdM r)))] [] (m=g+1) (.p (.i a)) [(p,(m,some (rdM r1)))]:=fun p g m=>⟨fun h=>by obtain rfl:=h;have:=(small_o g r 60 (by decide) hr.1 hr.2).one p;rwa [h1] at this⟩
 haveI:∀ p g m:Nat,OC Tryz.prog 92 [.o (.ptr p g 0),.p (.i 8)] [(p,(m,some (rdM r1)))] [] (m=g+1) (.p (.i b)) [(p,(m,some (rdM r2)))]:=fun p g m=>⟨fun h=>by obtain rfl:=h;have:=(small_o g r1 8 (by decide) o1.1 o1.2).one p;rwa [h2] at this⟩
 haveI:∀ p g m:Nat,OC Tryz.prog 132 [.o (.ptr p g 0)] [(p,(m,some (rdM r2)))] [] (m=g+1) (.p (.k .u64 (c:Int))) [(p,(m,some (rdM r3)))]:=fun p g m=>⟨fun h=>by obtain rfl:=h;have:=(rnum_o g r2 o2.1 o2.2).one p;rwa [h3] at this⟩
 haveI:∀ p g m:Nat,OC Tryz.prog 184 [.o (.ptr p g 0)] [(p,(m,some (rdM r3)))] [] (m=g+1) (.p (.i d)) [(p,(m,some (rdM r4)))]:=fun p g m=>⟨fun h=>by obtain rfl:=h;have:=(rint_o g r3 o3).one p;rwa [h4] at this⟩
 clear e h1 h2 h3 h4
 as_aux_lemma=>
  repeat' (first|refine jx5 ?_|refine jy0 ?_ ?_|exact spF|refine spQ fun hq hq'=>?_|refine spN fun hn=>?_|fail)
  exact RetO.mk (oc1 rfl rfl rfl rfl rfl rfl finL_p rfl) ⟨.box finL_p,trivial⟩
end Go.Proofs.YtkgploeegbmofaaGreat.Wi
namespace Go.Proofs.YtkgploeegbmofaaGreat.Wi
open Go Go.RowKit Go.Aw Go.Aw.Cart Go.Proofs.YtkgploeegbmofaaGreat.Ca
set_option linter.unusedVariables false
set_option linter.unusedSimpArgs false
set_option maxRecDepth 8000
set_option maxHeartbeats 4000000
theorem ro_k1 {ops:Array Oper} {W:List (Nat × Nat)} {i c:Nat} {m:Nat × Option MO} (h:okObj ops W i c=true):∀ x,kIn [(c,m)] x=true→okObj ops W i x=true:=fun x hx=>by
 simp only [kIn,Bool.or_false] at hx
 rw [Nat.eq_of_beq_eq_true hx];exact h
namespace W8
theorem lopC {C:Ctx} {o:Oper} {σ:St} {e:Eff} {ro:Nat→Bool} (h:LOp C o σ e ro:=by
  first|exact W7.lopC|fail):LOp C o σ e ro:=h
section steps
variable {C:Ctx} {ops:Array Oper} {o:Oper} {rest:List Oper} {K:St→Prop} {σ:St} {e:Eff} {ro:Nat→Bool} {W:List (Nat × Nat)} {i:Nat}
theorem rnC {d:Nat} (hg:Guard ops σ o true:=by first|exact gd_n rfl rfl|exact gd_t rfl rfl rfl rfl|exact gd_t rfl rfl rfl (by assumption)) (hd:o.dst=some d:=by rfl) (h:LOp C o σ e ro:=by exact lopC) (hk:RunN C ops rest K (e.app (some d) σ)):RunN C ops (o::rest) K σ:=rn_any hg hd h hk
theorem rkC {d:Nat} (hg:Guard ops σ o true:=by first|exact gd_n rfl rfl|exact gd_t rfl rfl rfl rfl|exact gd_t rfl rfl rfl (by assumption)) (hd':o.dst=some d:=by rfl) (hd:dOk C o.dst=true:=by rfl) (h:LOp C o σ e ro:=by exact lopC) (hro:∀ x,ro x=true→okObj ops W i x=true:=by first|exact fun _=>ro_none|exact ro_one rfl|exact ro_k1 rfl|exact ro_one (by kernel_rfl)|exact ro_k1 (by kernel_rfl)|exact ro_kIn (by decide)) (hob:∀ p∈e.obj,(i,p.1)∈W:=by first|exact ob_none|exact ob_one (by decide)|decide) (hk:RunK C ops W (i+1) rest K (e.app (some d) σ)):RunK C ops W i (o::rest) K σ:=rk_wr hg hd' hd h hro hob hk
end steps
end W8
open W8
theorem many_bad {α:Type} {P:RS→α × RS} (r:RS) {k:Nat} (h:(manyS P k r).2.2≠0):∀ j,manyS P (k+j) r=manyS P k r
 | 0=>rfl
 | j+1=>by
  have ih:=many_bad r h j
  rw [← Nat.add_assoc,manyS,ih,if_neg h]
theorem cartS_eq (r:RS):cartS r=okS ((vecS r).1,(manyS entS (smallS 400 (vecS r).2).1.toNat (smallS 400 (vecS r).2).2).1) (zeroV,[]) (mustS (rightF (vecS r).1 (manyS entS (smallS 400 (vecS r).2).1.toNat (smallS 400 (vecS r).2).2).1) (manyS entS (smallS 400 (vecS r).2).1.toNat (smallS 400 (vecS r).2).2).2):=by
 simp only [cartS,bindS,mustU]
theorem fin9 {σ:St} {K:Nat→Bool} {p0 p1 p2 p3 p4 p5 p6 p7:PVal}:All2 (FinC σ K) [.p p0,.p p1,.p p2,.p p3,.p p4,.p p5,.p p6,.p p7,.p (.v (.slice none 0 0))] [.p p0,.p p1,.p p2,.p p3,.p p4,.p p5,.p p6,.p p7,.p (.sl 4 (([]:List Ent).map eR) false)]:=
 .cons .p (.cons .p (.cons .p (.cons .p (.cons .p (.cons .p (.cons .p (.cons .p (.cons .nil .nil))))))))
theorem pr_ex {α β:Type} (p:α × β):∃ a b,p=(a,b):=⟨p.1,p.2,rfl⟩
theorem all_ok_len (r:RS) (z:List Int) (k:Nat) (hz:z.length=k):(bindS (allS numZ k) (fun v=>okS v z) r).1.length=k:=by
 show (if (allS numZ k r).2.2=0 then (allS numZ k r).1 else z).length=k
 split
 ·exact all_len _ _ _
 ·exact hz
theorem vec_len8 (r:RS):(vecS r).1.length=8:=all_ok_len r zeroV 8 rfl
theorem small_le {most:Int} (h:0≤most) (r:RS):(smallS most r).1≤most:=by
 unfold smallS
 dsimp only
 split
 ·rename_i hz
  unfold mustS at hz
  by_cases k:(decide (0≤most)&&decide (((numS r).1:Int)≤most))=true
  ·rw [Bool.and_eq_true,decide_eq_true_eq,decide_eq_true_eq] at k
   exact k.2
  ·by_cases k2:(numS r).2.2=0
   ·rw [if_pos ⟨k2,Bool.eq_false_iff.2 k⟩] at hz;cases hz
   ·rw [if_neg (fun q=>k2 q.1)] at hz;exact absurd hz k2
 ·exact h
attribute [local irreducible] vecS smallS entS cartS
theorem ptake_o (n:Nat) (r:RS) (hr:rdOk r):OCall Tryz.prog 136 [.o (.ptr 1000 n 0)] (memL [(1000,(n+1,some (rdM r)))]) (cV (cartS r).1.1 (cartS r).1.2 false) (memL [(1000,(n+1,some (rdM (cartS r).2)))]):=by
 refine ocall_of1 Tryz.func136 rfl (fun w0 F S0 M0=>?_)
 have hv8:=vec_len8 r
 rw [cartS_eq]
 obtain ⟨V,r1,h1⟩:∃ a r1,vecS r=(a,r1):=pr_ex _
 have o1:rdOk r1:=by have:=par_vec.rd hr;rwa [h1] at this
 haveI:∀ p g m:Nat,OC Tryz.prog 164 [.o (.ptr p g 0)] [(p,(m,some (rdM r)))] [] (m=g+1) (.a (v8L V)) [(p,(m,some (rdM r1)))]:=fun p g m=>⟨fun h=>by
  obtain rfl:=h
  have:=(rvec_o g r hr).one p
  rw [ren_vV,vV8 hv8,h1] at this
  exact this⟩
 rw [h1] at hv8 ⊢
 clear h1
 dsimp only at hv8 ⊢
 obtain ⟨k,hk⟩:=small_nat 400 r1
 obtain ⟨r2,h2⟩:∃ r2,(smallS 400 r1).2=r2:=⟨_,rfl⟩
 have o2:rdOk r2:=by have:=(par_small 400).rd o1;rwa [h2] at this
 haveI:∀ p g m:Nat,OC Tryz.prog 92 [.o (.ptr p g 0),.p (.i 400)] [(p,(m,some (rdM r1)))] [] (m=g+1) (.p (.i (k:Int))) [(p,(m,some (rdM r2)))]:=fun p g m=>⟨fun h=>by obtain rfl:=h;have:=(small_o g r1 400 (by decide) o1.1 o1.2).one p;rwa [hk,h2] at this⟩
 have hk4:(k:Int)≤400:=by rw [← hk];exact small_le (by decide) r1
 rw [hk,h2,Int.toNat_natCast]
 clear hk h2
 have okS_is:∀ (a z:Crt) (q:RS),okS a z q=(if q.2=0 then a else z,q):=fun _ _ _=>rfl
 rw [okS_is]
 repeat' (first|refine jx5 ?_|refine jy0 ?_ ?_|exact spF|refine spQ fun hq hq'=>?_|refine spN fun hn=>?_|fail)
 refine aws_says (says_nil_at (p:=3) (k:=8) (o:=901) (ty:=175) (es:=4) (ds:=v8L V++[.osl 901 0 4 0 0]) rfl rfl rfl rfl (by decide) (by decide)) ?_
 refine aws_loopS [9,10,11,12,13,14,15,16,17,18,19,20,21] [1000,3,901] (fun (x:Nat × Nat × List Ent × RS)=>[(9,.p (.i x.1))]) (fun x=>[(1000,(n+1,some (rdM x.2.2.2))),(3,(1,some (.box 121 (v8L V++[.osl 901 x.2.1 4 0 x.2.2.1.length])))),(901,(x.2.1+1,some (.buf 175 4 (x.2.2.1.map eR))))])
  (fun x=>x.1≤k∧manyS entS x.1 r2=(x.2.2.1,x.2.2.2)) (fun x=>k - x.1) (0,0,[],r2) ⟨Nat.zero_le _,rfl⟩ (by exact knA) (by exact knA) ?_
 rintro ⟨i,g,L,q⟩ β γ ⟨hi,hL⟩
 dsimp only at hi hL ⊢
 have hll:L.length≤400:=by have:=many_len entS r2 i;rw [hL] at this;dsimp only at this;omega
 have oq:rdOk q:=by have:=(par_many par_ent i).rd o2;rwa [hL] at this
 by_cases hik:i < k∧q.2=0
 ·obtain ⟨hik,hq⟩:=hik
  have d1:decide ((i:Int) < (k:Int))=true:=decide_eq_true (by omega)
  have d2:decide (q.2≠0)=false:=decide_eq_false fun h=>h hq
  have hn:manyS entS (i+1) r2=(L++[(entS q).1],(entS q).2):=by rw [manyS,hL,if_pos hq]
  obtain ⟨e,q',he⟩:∃ e q',entS q=(e,q'):=pr_ex _
  haveI:∀ p g m:Nat,OC Tryz.prog 165 [.o (.ptr p g 0)] [(p,(m,some (rdM q)))] [] (m=g+1) (eV e) [(p,(m,some (rdM q')))]:=fun p g m=>⟨fun h=>by obtain rfl:=h;have:=(entry_o g q oq).one p;rwa [he] at this⟩
  rw [he] at hn
  clear he
  repeat' (first|refine jx5 ?_|refine jy0 ?_ ?_|exact spF|refine spQ fun hq hq'=>?_|refine spN fun hn=>?_|fail)
  refine aws_draws [(3,1000),(5,901),(7,3)] mixed (by kernel_rfl) ?_
  repeat' (first|refine jx7 ?_|refine jy1 ?_ ?_|exact spF|refine spQ fun hq hq'=>?_|fail)
  as_aux_lemma=>
   repeat' (first|refine jx5 ?_|refine jy0 ?_ ?_|exact spF|refine spQ fun hq hq'=>?_|refine spN fun hn=>?_|fail)
   exact ⟨(i+1,g+1,L++[e],q'),_,by dsimp only;omega,⟨by dsimp only;omega,hn⟩,.refl,by exact frA⟩
 ·have hm:manyS entS k r2=(L,q):=by
   by_cases h:i < k
   ·have hq:q.2≠0:=fun hq=>hik ⟨h,hq⟩
    have:=many_bad (P:=entS) r2 (k:=i) (by rw [hL];exact hq) (k - i)
    rw [show i+(k - i)=k by omega] at this
    rw [this,hL]
   ·rw [show k=i by omega,hL]
  have hex:decide ((i:Int) < (k:Int))=false∨(decide ((i:Int) < (k:Int))=true∧decide (q.2≠0)=true):=by
   by_cases h:i < k
   ·exact .inr ⟨decide_eq_true (by omega),decide_eq_true fun hq=>hik ⟨h,hq⟩⟩
   ·exact .inl (decide_eq_false (by omega))
  rw [hm]
  dsimp only
  clear hm hL hik
  haveI:PC Tryz.prog 66 [cV V L false] True (.p (.b (rightF V L))):=⟨fun _=>right_w V L false hv8 (by omega)⟩
  refine aws_says (says_frz_at (p:=3) (k:=8) (o:=901) (ds:=cL V L false) rfl rfl rfl rfl rfl (by rw [List.length_map]) (by decide)) ?_
  generalize rightF V L=B at this ⊢
  by_cases hz:(mustS B q).2=0
  ·have d4:decide ((mustS B q).2≠0)=false:=decide_eq_false fun h=>h hz
   rw [if_pos hz]
   rcases hex with d1 | ⟨d1,d2⟩
   all_goals
    as_aux_lemma=>
     repeat' (first|refine jx5 ?_|refine jy0 ?_ ?_|exact spF|refine spQ fun hq hq'=>?_|refine spN fun hn=>?_|fail)
     exact RetO.mk (oc1 rfl rfl rfl rfl rfl rfl finL_p rfl) ⟨.box finL_p,trivial⟩
  ·have d4:decide ((mustS B q).2≠0)=true:=decide_eq_true hz
   rw [if_neg hz]
   rcases hex with d1 | ⟨d1,d2⟩
   all_goals
    as_aux_lemma=>
     repeat' (first|refine jx5 ?_|refine jy0 ?_ ?_|exact spF|refine spQ fun hq hq'=>?_|refine spN fun hn=>?_|fail)
     exact RetO.mk (oc1 rfl rfl rfl rfl rfl rfl fin9 rfl) ⟨.box finL_p,trivial⟩
end Go.Proofs.YtkgploeegbmofaaGreat.Wi
