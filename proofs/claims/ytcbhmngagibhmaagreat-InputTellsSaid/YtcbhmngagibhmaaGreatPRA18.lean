/- the reference's writers -/
import Derived.Test.YtcbhmngagibhmaaGreatPRA14
import Derived.Test.YtcbhmngagibhmaaGreatPRA12
import Derived.Test.YtcbhmngagibhmaaGreatPRA35
import Derived.Test.YtcbhmngagibhmaaGreatPRA11
namespace Go.Proofs.YtcbhmngagibhmaaGreat.Wi
open Go Go.RowKit Go.Aw Go.Aw.Cart Go.Proofs.YtcbhmngagibhmaaGreat.Ca
set_option linter.unusedVariables false
set_option linter.unusedSimpArgs false
set_option maxRecDepth 8000
set_option maxHeartbeats 4000000
theorem lop_boB {C:Ctx} {o:Oper} {σ:St} {T e:TypeId} {sz by_:Nat} {ke:TK} {be:Nat} {z:List Value} {d n0:Nat} {mo0:Option MO} {x0:Operand} {m:Int} {v:Nat} (ho:o.op=.buildSlice T 1 #[(0,x0)]) (hT:TI C.P T (.slice e) sz by_) (he:TI C.P e ke 1 be) (hz:TZ C.P e z) (hdst:o.dst=some d) (hm0:σ.mem d=(n0,mo0)) (h0:σ.look x0=.p (.v (.int .u8 m))) (hv:m=(v:Int)) (hd:dOk C o.dst=true) :
  LOp C o σ ⟨.o (.osl d n0 1 0 ([v]:List Nat).length),[(d,(n0+1,some (.buf e 1 (([v]:List Nat).map bR))))]⟩ (fun q=>q == d):=by
 subst hv
 exact lop_bo1 ho hT he hz hdst hm0 h0 hd
theorem be_is {f x:Nat} {l:List Nat} {n:Nat} (h:beF (f+1) x++l=be n) (hx:x≠0):beF f (x / 256)++([x % 256]++l)=be n:=by
 rw [beF,if_neg hx,List.append_assoc] at h
 exact h
theorem refNum_w (n:Nat) (hn:n < 18446744073709551616):PCall Tryz.prog 88 [.p (.k .u64 (n:Int))] (.p (.sl 1 ((numB n).map bR) false)):=by
 refine pcall_of Tryz.func88 rfl (fun w0 F S0 M0=>?_)
 open W6 in
 repeat' (first|refine jx5 ?_|refine jy0 ?_ ?_|exact spF|refine spQ fun hq hq'=>?_|refine spN fun hn=>?_|fail)
 refine aws_says (says_nils (t:=3) (es:=1) rfl) ?_
 refine aws_says (says_inex (t:=3) rfl) ?_
 refine aws_loopS [0,3,4,5,6,7,8,9,10,11,12,13] [] (fun (x:Nat × Nat × List Nat)=>[(0,.p (.k .u64 (x.2.1:Int))),(3,.p (.sl 1 (x.2.2.map bR) false))]) (fun _=>[]) (fun x=>x.2.1 < 256 ^ x.1∧beF x.1 x.2.1++x.2.2=be n∧x.1≤8) (fun x=>x.1) (8,n,[]) ⟨by show n < 256 ^ 8;exact hn,List.append_nil _,Nat.le_refl _⟩ (by exact knA) (by exact knA) ?_
 rintro ⟨f,x,l⟩ β γ ⟨hx,hl,hf⟩
 dsimp only at hx hl hf ⊢
 have hll:l.length≤8:=by
  have:=congrArg List.length hl
  have h8:=beF_le 8 n
  rw [List.length_append] at this
  have h9:(be n).length=(beF 8 n).length:=rfl
  omega
 by_cases h0:x=0
 ·have d1:decide (0 < (x:Int))=false:=decide_eq_false (by omega)
  have e:numB n=[l.length]++l:=by
   unfold numB
   rw [← hl,h0,beF_zero,List.nil_append];rfl
  have hw:IntKind.u8.wrap (l.length:Int)=(l.length:Int):=u8_in (by omega)
  rw [e]
  clear hl
  open W6 in
  as_aux_lemma=>
   repeat' (first|refine jx5 ?_|refine jy0 ?_ ?_|exact spF|refine spQ fun hq hq'=>?_|refine spN fun hn=>?_|fail)
   exact rt1 rfl rfl finS_p rfl
 ·have d1:decide (0 < (x:Int))=true:=decide_eq_true (by omega)
  obtain ⟨g,rfl⟩:∃ g,f=g+1:=by
   cases f with
   | zero=>rw [Nat.pow_zero] at hx;omega
   | succ g=>exact ⟨g,rfl⟩
  have hnx:=be_is hl h0
  have hx8:x < 18446744073709551616:=Nat.lt_of_lt_of_le hx (Nat.pow_le_pow_right (by decide) hf:256 ^ (g+1)≤256 ^ 8)
  have hdv:x / 256 % md .u64=x / 256:=by rw [show md .u64=18446744073709551616 from rfl];omega
  have hw:IntKind.u8.wrap ((x % 256:Nat):Int)=((x % 256:Nat):Int):=u8_in (by omega)
  clear hl
  open W6 in
  as_aux_lemma=>
   repeat' (first|refine jx5 ?_|refine jy0 ?_ ?_|exact spF|refine spQ fun hq hq'=>?_|refine spN fun hn=>?_|fail)
   exact ⟨(g,x / 256 % md .u64,[x % 256]++l),_,by dsimp only;omega,⟨by dsimp only;rw [hdv];rw [Nat.pow_succ] at hx;omega,by dsimp only;rw [hdv];exact hnx,by dsimp only;omega⟩,.refl,by exact frA⟩
namespace PW3
theorem lopC {C:Ctx} {o:Oper} {σ:St} {e:Eff} {ro:Nat→Bool} (h:LOp C o σ e ro:=by
  first|(apply lop_boB;(focus rfl);(focus exact inferInstance);(focus exact inferInstance);(focus exact inferInstance);(focus rfl);(focus rfl);(focus rfl);(focus rfl);(focus rfl))|exact W6.lopC|fail):LOp C o σ e ro:=h
section steps
variable {C:Ctx} {ops:Array Oper} {o:Oper} {rest:List Oper} {K:St→Prop} {σ:St} {e:Eff} {ro:Nat→Bool} {W:List (Nat × Nat)} {i:Nat}
theorem rnC {d:Nat} (hg:Guard ops σ o true:=by first|exact gd_n rfl rfl|exact gd_t rfl rfl rfl rfl|exact gd_t rfl rfl rfl (by assumption)) (hd:o.dst=some d:=by rfl) (h:LOp C o σ e ro:=by exact lopC) (hk:RunN C ops rest K (e.app (some d) σ)):RunN C ops (o::rest) K σ:=rn_any hg hd h hk
theorem rkC {d:Nat} (hg:Guard ops σ o true:=by first|exact gd_n rfl rfl|exact gd_t rfl rfl rfl rfl|exact gd_t rfl rfl rfl (by assumption)) (hd':o.dst=some d:=by rfl) (hd:dOk C o.dst=true:=by rfl) (h:LOp C o σ e ro:=by exact lopC) (hro:∀ x,ro x=true→okObj ops W i x=true:=by first|exact fun _=>ro_none|exact ro_one rfl|exact ro_k1 rfl|exact ro_one (by kernel_rfl)|exact ro_k1 (by kernel_rfl)|exact ro_kIn (by decide)) (hob:∀ p∈e.obj,(i,p.1)∈W:=by first|exact ob_none|exact ob_one (by decide)|decide) (hk:RunK C ops W (i+1) rest K (e.app (some d) σ)):RunK C ops W i (o::rest) K σ:=rk_wr hg hd' hd h hro hob hk
end steps
end PW3
theorem refNum_o (n:Nat) (hn:n < 18446744073709551616):OCall Tryz.prog 88 [.p (.k .u64 (n:Int))] (fun _=>(0,none)) (.o (.osl 17 1 1 0 (numB n).length)) (memL [(17,(2,some (.buf 5 1 ((numB n).map bR))))]):=by
 refine ocall_ofF 17 Tryz.func88 rfl (fun w0 F S0 M0=>?_)
 open W6 in
 repeat' (first|refine jx5 ?_|refine jy0 ?_ ?_|exact spF|refine spQ fun hq hq'=>?_|refine spN fun hn=>?_|fail)
 refine aws_says (says_nils (t:=3) (es:=1) rfl) ?_
 refine aws_says (says_inex (t:=3) rfl) ?_
 refine aws_loopS [0,3,4,5,6,7,8,9,10,11,12,13] [] (fun (x:Nat × Nat × List Nat)=>[(0,.p (.k .u64 (x.2.1:Int))),(3,.p (.sl 1 (x.2.2.map bR) false))]) (fun _=>[]) (fun x=>x.2.1 < 256 ^ x.1∧beF x.1 x.2.1++x.2.2=be n∧x.1≤8) (fun x=>x.1) (8,n,[]) ⟨by show n < 256 ^ 8;exact hn,List.append_nil _,Nat.le_refl _⟩ (by exact knA) (by exact knA) ?_
 rintro ⟨f,x,l⟩ β γ ⟨hx,hl,hf⟩
 dsimp only at hx hl hf ⊢
 have hll:l.length≤8:=by
  have:=congrArg List.length hl
  have h8:=beF_le 8 n
  rw [List.length_append] at this
  have h9:(be n).length=(beF 8 n).length:=rfl
  omega
 by_cases h0:x=0
 ·have d1:decide (0 < (x:Int))=false:=decide_eq_false (by omega)
  have e:numB n=[l.length]++l:=by
   unfold numB
   rw [← hl,h0,beF_zero,List.nil_append];rfl
  have hw:IntKind.u8.wrap (l.length:Int)=(l.length:Int):=u8_in (by omega)
  rw [e]
  clear hl
  repeat (first|refine stp (h:=?_)|fail)
  refine W6.rnC (hk:=?_)
  refine W6.rnC (hk:=?_)
  repeat (first|refine stp (h:=?_)|refine ifT (h1:=?_)|refine ifF (h1:=?_)|fail)
  refine W6.rnC (hk:=?_)
  refine W6.rnC (hk:=?_)
  refine W6.rnC (hk:=?_)
  refine rn_any (gd_n rfl rfl) rfl (lop_boB (v:=l.length) rfl inferInstance inferInstance inferInstance rfl rfl rfl rfl rfl) ?_
  open W6 in
  as_aux_lemma=>
   repeat' (first|refine jx5 ?_|refine jy0 ?_ ?_|exact spF|refine spQ fun hq hq'=>?_|refine spN fun hn=>?_|fail)
   exact RetO.mk (ot1 rfl rfl (.one (.kosl rfl)) rfl) ⟨.buf,trivial⟩
 ·have d1:decide (0 < (x:Int))=true:=decide_eq_true (by omega)
  obtain ⟨g,rfl⟩:∃ g,f=g+1:=by
   cases f with
   | zero=>rw [Nat.pow_zero] at hx;omega
   | succ g=>exact ⟨g,rfl⟩
  have hnx:=be_is hl h0
  have hx8:x < 18446744073709551616:=Nat.lt_of_lt_of_le hx (Nat.pow_le_pow_right (by decide) hf:256 ^ (g+1)≤256 ^ 8)
  have hdv:x / 256 % md .u64=x / 256:=by rw [show md .u64=18446744073709551616 from rfl];omega
  have hw:IntKind.u8.wrap ((x % 256:Nat):Int)=((x % 256:Nat):Int):=u8_in (by omega)
  clear hl
  open W6 in
  as_aux_lemma=>
   repeat' (first|refine jx5 ?_|refine jy0 ?_ ?_|exact spF|refine spQ fun hq hq'=>?_|refine spN fun hn=>?_|fail)
   exact ⟨(g,x / 256 % md .u64,[x % 256]++l),_,by dsimp only;omega,⟨by dsimp only;rw [hdv];rw [Nat.pow_succ] at hx;omega,by dsimp only;rw [hdv];exact hnx,by dsimp only;omega⟩,.refl,by exact frA⟩
end Go.Proofs.YtcbhmngagibhmaaGreat.Wi
namespace Go.Proofs.YtcbhmngagibhmaaGreat.Wi
open Go Go.RowKit Go.Aw Go.Aw.Cart Go.Proofs.YtcbhmngagibhmaaGreat.Ca
set_option linter.unusedVariables false
set_option linter.unusedSimpArgs false
set_option maxRecDepth 8000
set_option maxHeartbeats 4000000
theorem numB_le (x:Nat):(numB x).length≤9:=by
 have:=beF_le 8 x
 show (beF 8 x).length+1≤9
 omega
theorem refText_w (b:List Nat) (hb:b.length≤1000000000):PCall Tryz.prog 118 [.p (.sl 1 (b.map bR) false)] (.p (.sl 1 ((textB b).map bR) false)):=by
 refine pcall_of Tryz.func118 rfl (fun w0 F S0 M0=>?_)
 have hw:IntKind.u64.wrap (b.length:Int)=(b.length:Int):=u64_in (by omega)
 haveI:∀ c k:Nat,OC Tryz.prog 88 [.p (.k .u64 (b.length:Int))] [] [(c,k)] True (.o (.osl c (k+1) 1 0 (numB b.length).length)) [(c,(k+2,some (.buf 5 1 ((numB b.length).map bR))))]:=fun c k=>⟨fun _=>(refNum_o b.length (by omega)).fresh1 c k⟩
 have hl:=numB_le b.length
 unfold textB
 generalize numB b.length=N at this hl ⊢
 open W6 in
 as_aux_lemma=>
  repeat' (first|refine jx5 ?_|refine jy0 ?_ ?_|exact spF|refine spQ fun hq hq'=>?_|refine spN fun hn=>?_|fail)
  exact rt1 rfl rfl (.one (finC_map rfl rfl rfl rfl)) rfl
theorem refInt_w (n:Int) (hn : -1000000000≤n∧n≤1000000000):PCall Tryz.prog 166 [.p (.i n)] (.p (.sl 1 ((intB n).map bR) false)):=by
 refine pcall_of Tryz.func166 rfl (fun w0 F S0 M0=>?_)
 have hmd:md .u64=18446744073709551616:=rfl
 unfold intB zig
 by_cases h:0≤n
 ·have d1:decide (0≤n)=true:=decide_eq_true h
  rw [if_pos h]
  obtain ⟨m,rfl⟩:∃ m:Nat,n=m:=⟨n.toNat,by omega⟩
  have hw:IntKind.u64.wrap (m:Int)=(m:Int):=u64_in (by omega)
  have e:(2 * (m:Int)).toNat=2 * m % md .u64:=by rw [hmd];omega
  rw [e]
  haveI:PC Tryz.prog 88 [.p (.k .u64 ((2 * m % md .u64:Nat):Int))] True (.p (.sl 1 ((numB (2 * m % md .u64)).map bR) false)):=⟨fun _=>refNum_w _ (by rw [hmd];omega)⟩
  open W6 in
  as_aux_lemma=>
   repeat' (first|refine jx5 ?_|refine jy0 ?_ ?_|exact spF|refine spQ fun hq hq'=>?_|refine spN fun hn=>?_|fail)
   first|exact rt1 rfl rfl finS_p rfl|exact rt1 rfl rfl (.one (finC_map rfl rfl rfl rfl)) rfl
 ·have d1:decide (0≤n)=false:=decide_eq_false h
  rw [if_neg h]
  obtain ⟨k,rfl⟩:∃ k:Nat,n = -(k:Int) - 1:=⟨(-n - 1).toNat,by omega⟩
  have hw:IntKind.u64.wrap (0 - (-(k:Int) - 1+1))=(k:Int):=by rw [show 0 - (-(k:Int) - 1+1)=(k:Int) by omega];exact u64_in (by omega)
  have e:(2 * (-(-(k:Int) - 1) - 1)+1).toNat=(2 * k % md .u64+1) % md .u64:=by rw [hmd];omega
  rw [e]
  haveI:PC Tryz.prog 88 [.p (.k .u64 (((2 * k % md .u64+1) % md .u64:Nat):Int))] True (.p (.sl 1 ((numB ((2 * k % md .u64+1) % md .u64)).map bR) false)):=⟨fun _=>refNum_w _ (by rw [hmd];omega)⟩
  open W6 in
  as_aux_lemma=>
   repeat' (first|refine jx5 ?_|refine jy0 ?_ ?_|exact spF|refine spQ fun hq hq'=>?_|refine spN fun hn=>?_|fail)
   first|exact rt1 rfl rfl finS_p rfl|exact rt1 rfl rfl (.one (finC_map rfl rfl rfl rfl)) rfl
theorem vecB_take {v:List Int} {i:Nat} (h:i < v.length):vecB (v.take (i+1))=vecB (v.take i)++numI (v.getD i default):=by
 unfold vecB
 rw [List.take_succ_eq_append_getElem h,List.flatMap_append,List.getD_eq_getElem?_getD,List.getElem?_eq_getElem h]
 simp
theorem vecB_le (v:List Int):(vecB v).length≤9 * v.length:=by
 unfold vecB
 induction v with
 | nil=>exact Nat.le_refl _
 | cons a l ih=>
  rw [List.flatMap_cons,List.length_append,List.length_cons]
  have:(numI a).length≤9:=numB_le a.toNat
  omega
theorem refVec_o (v:List Int) (hv:vecOk v):OCall Tryz.prog 199 [vV v] (fun _=>(0,none)) (.o (.osl 14 8 1 0 (vecB v).length)) (memL [(14,(9,some (.buf 5 1 ((vecB v).map bR))))]):=by
 refine ocall_ofF 14 Tryz.func199 rfl (fun w0 F S0 M0=>?_)
 have h8:=hv.1
 open W6 in
 repeat' (first|refine jx5 ?_|refine jy0 ?_ ?_|exact spF|refine spQ fun hq hq'=>?_|refine spN fun hn=>?_|fail)
 refine aws_says (says_nil (t:=3) (o:=14) (es:=1) (ty:=5) rfl rfl (by decide)) ?_
 refine aws_loopS [3,4,5,6,7,8,9,10,11,12,13,14] [14] (fun (x:Nat × List Nat)=>[(4,.p (.i x.1)),(3,.o (.osl 14 x.1 1 0 x.2.length))]) (fun x=>[(14,(x.1+1,some (.buf 5 1 (x.2.map bR))))]) (fun x=>x.1≤8∧x.2=vecB (v.take x.1)) (fun x=>8 - x.1) (0,[]) ⟨Nat.zero_le _,rfl⟩ (by exact knA) (by exact knA) ?_
 rintro ⟨i,out⟩ β γ ⟨hi,ho⟩
 dsimp only at hi ho ⊢
 have hol:out.length≤72:=by
  have:=vecB_le (v.take i)
  rw [← ho,List.length_take] at this;omega
 by_cases hil:i < 8
 ·have d1:decide ((i:Int) < 8)=true:=decide_eq_true (by omega)
  have hix:i < v.length:=by omega
  have hs:=vecB_take hix
  rw [← ho,show v.getD i default=v.getD (i:Int).toNat default by rw [Int.toNat_natCast]] at hs
  have hb:0≤v.getD (i:Int).toNat default∧v.getD (i:Int).toNat default < 18446744073709551616:=by
   rw [Int.toNat_natCast,List.getD_eq_getElem?_getD,List.getElem?_eq_getElem hix];exact hv.2 _ (List.getElem_mem _)
  have cN:=refNum_w (v.getD (i:Int).toNat default).toNat (by omega)
  rw [Int.toNat_of_nonneg hb.1] at cN
  have hnl:(numI (v.getD (i:Int).toNat default)).length≤9:=numB_le _
  haveI:PC Tryz.prog 88 [.p (.k .u64 (v.getD (i:Int).toNat default))] True (.p (.sl 1 ((numI (v.getD (i:Int).toNat default)).map bR) false)):=⟨fun _=>cN⟩
  generalize numI (v.getD (i:Int).toNat default)=N at this hs hnl
  clear ho cN
  open W6 in
  as_aux_lemma=>
   repeat' (first|refine jx5 ?_|refine jy0 ?_ ?_|exact spF|refine spQ fun hq hq'=>?_|refine spN fun hn=>?_|fail)
   exact ⟨(i+1,out++N),_,by dsimp only;omega,⟨by dsimp only;omega,hs.symm⟩,.refl,by exact frA⟩
 ·have d1:decide ((i:Int) < 8)=false:=decide_eq_false (by omega)
  obtain rfl:i=8:=by omega
  rw [List.take_of_length_le (by omega)] at ho
  rw [← ho]
  clear ho
  open W6 in
  as_aux_lemma=>
   repeat' (first|refine jx5 ?_|refine jy0 ?_ ?_|exact spF|refine spQ fun hq hq'=>?_|refine spN fun hn=>?_|fail)
   exact RetO.mk (ot1 rfl rfl (.one (.kosl rfl)) rfl) ⟨.buf,trivial⟩
theorem ren_vVF (q c n:Nat) (v:List Int):AV.ren (rnF q c n) (vV v)=vV v:=by
 show AV.a ((v.map _).map _)=_
 rw [List.map_map];rfl
theorem refVec_i {c k:Nat} {v:List Int} (hv:vecOk v):OC Tryz.prog 199 [vV v] [] [(c,k)] True (.o (.osl c (k+8) 1 0 (vecB v).length)) [(c,(k+9,some (.buf 5 1 ((vecB v).map bR))))]:=⟨fun _=>by have:=(refVec_o v hv).fresh1 c k;rw [List.map_cons,List.map_nil,ren_vVF] at this;exact this⟩
theorem refNumI (n:Int) (h:0≤n∧n < 18446744073709551616):PC Tryz.prog 88 [.p (.k .u64 n)] True (.p (.sl 1 ((numI n).map bR) false)):=⟨fun _=>by
 have cN:=refNum_w n.toNat (by omega)
 rw [Int.toNat_of_nonneg h.1] at cN
 exact cN⟩
theorem entB_take {l:List Ent} {i:Nat} (h:i < l.length):(l.take (i+1)).flatMap entB=(l.take i).flatMap entB++entB (l.getD i default):=by
 rw [List.take_succ_eq_append_getElem h,List.flatMap_append,List.getD_eq_getElem?_getD,List.getElem?_eq_getElem h]
 simp
theorem entB_le (e:Ent):(entB e).length≤36:=by
 unfold entB
 simp only [List.length_append]
 have h1:(numI e.1).length≤9:=numB_le _
 have h2:(numI e.2.1).length≤9:=numB_le _
 have h3:(numI e.2.2.1).length≤9:=numB_le _
 have h4:(intB e.2.2.2).length≤9:=numB_le _
 omega
theorem entsB_le (l:List Ent):(l.flatMap entB).length≤36 * l.length:=by
 induction l with
 | nil=>exact Nat.le_refl _
 | cons a l ih=>
  rw [List.flatMap_cons,List.length_append,List.length_cons]
  have:=entB_le a
  omega
theorem refWrite_w (v:List Int) (l:List Ent) (ex:Bool) (hv:vecOk v) (hl:l.length≤400) (he:∀ e∈l,entOk e):PCall Tryz.prog 161 [cV v l ex] (.p (.sl 1 ((cartB (v,l)).map bR) false)):=by
 refine pcall_of Tryz.func161 rfl (fun w0 F S0 M0=>?_)
 have hw:IntKind.u64.wrap (l.length:Int)=(l.length:Int):=u64_in (by omega)
 have h8:=hv.1
 have hvl:=vecB_le v
 haveI:∀ c k:Nat,OC Tryz.prog 199 [.a (v8L v)] [] [(c,k)] True (.o (.osl c (k+8) 1 0 (vecB v).length)) [(c,(k+9,some (.buf 5 1 ((vecB v).map bR))))]:=fun c k=>by rw [← vV8 h8];exact refVec_i hv
 haveI:PC Tryz.prog 88 [.p (.k .u64 (l.length:Int))] True (.p (.sl 1 ((numB l.length).map bR) false)):=⟨fun _=>refNum_w l.length (by omega)⟩
 have hnl:=numB_le l.length
 unfold cartB
 dsimp only
 generalize numB l.length=N at *
 generalize vecB v=V at *
 open W7 in
 repeat' (first|refine jx5 ?_|refine jy0 ?_ ?_|exact spF|refine spQ fun hq hq'=>?_|refine spN fun hn=>?_|fail)
 refine aws_draws [(2,8),(8,8)] mixed (by kernel_rfl) ?_
 open W7 in
 repeat' (first|refine jx6 ?_|refine jy0 ?_ ?_|exact spF|refine spQ fun hq hq'=>?_|refine spN fun hn=>?_|fail)
 refine aws_loopS [3,4,5,15,16,17,18,19,20,21,22,23,24,25,26,27,28,29,30,31,32,33,34,35,36,37,38,39,40,41,42,43,44,45,46] [8,5] (fun (x:Nat × Nat × List Nat × Option MO)=>[(4,.p (.i x.1)),(3,.o (.osl 8 x.2.1 1 0 x.2.2.1.length))]) (fun x=>[(8,(x.2.1+1,some (.buf 5 1 (x.2.2.1.map bR)))),(5,(x.1,x.2.2.2))]) (fun x=>x.1≤l.length∧x.2.2.1=(V++N)++(l.take x.1).flatMap entB) (fun x=>l.length - x.1) (0,9,V++N,none) ⟨Nat.zero_le _,(List.append_nil _).symm⟩ (by exact knA) (by exact knA) ?_
 rintro ⟨i,g,out,m5⟩ β γ ⟨hi,ho⟩
 dsimp only at hi ho ⊢
 have hol:out.length≤20000:=by
  have:=entsB_le (l.take i)
  rw [ho]
  simp only [List.length_append]
  rw [List.length_take] at this
  omega
 by_cases hil:i < l.length
 ·have d1:decide ((i:Int) < (l.length:Int))=true:=decide_eq_true (by omega)
  have hs:=entB_take hil
  rw [show l.getD i default=l.getD (i:Int).toNat default by rw [Int.toNat_natCast]] at hs
  have hok:entOk (l.getD (i:Int).toNat default):=he _ (by rw [Int.toNat_natCast,List.getD_eq_getElem?_getD,List.getElem?_eq_getElem hil];exact List.getElem_mem _)
  obtain ⟨k1,k2,k3,k4⟩:=hok
  have w1:IntKind.u64.wrap (l.getD (i:Int).toNat default).1=(l.getD (i:Int).toNat default).1:=u64_in (by omega)
  have w2:IntKind.u64.wrap (l.getD (i:Int).toNat default).2.1=(l.getD (i:Int).toNat default).2.1:=u64_in (by omega)
  haveI n1:=refNumI (l.getD (i:Int).toNat default).1 (by omega)
  haveI n2:=refNumI (l.getD (i:Int).toNat default).2.1 (by omega)
  haveI n3:=refNumI (l.getD (i:Int).toNat default).2.2.1 k3
  haveI n4:PC Tryz.prog 166 [.p (.i (l.getD (i:Int).toNat default).2.2.2)] True (.p (.sl 1 ((intB (l.getD (i:Int).toNat default).2.2.2).map bR) false)):=⟨fun _=>refInt_w _ (by omega)⟩
  have q1:(numI (l.getD (i:Int).toNat default).1).length≤9:=numB_le _
  have q2:(numI (l.getD (i:Int).toNat default).2.1).length≤9:=numB_le _
  have q3:(numI (l.getD (i:Int).toNat default).2.2.1).length≤9:=numB_le _
  have q4:(intB (l.getD (i:Int).toNat default).2.2.2).length≤9:=numB_le _
  rw [show entB (l.getD (i:Int).toNat default)=numI (l.getD (i:Int).toNat default).1++(numI (l.getD (i:Int).toNat default).2.1++(numI (l.getD (i:Int).toNat default).2.2.1++intB (l.getD (i:Int).toNat default).2.2.2)) from rfl] at hs
  generalize numI (l.getD (i:Int).toNat default).1=N1 at *
  generalize numI (l.getD (i:Int).toNat default).2.1=N2 at *
  generalize numI (l.getD (i:Int).toNat default).2.2.1=N3 at *
  generalize intB (l.getD (i:Int).toNat default).2.2.2=N4 at *
  open W7 in
  repeat' (first|refine jx5 ?_|refine jy0 ?_ ?_|exact spF|refine spQ fun hq hq'=>?_|refine spN fun hn=>?_|fail)
  refine aws_draws [(5,8),(10,8)] mixed (by kernel_rfl) ?_
  open W7 in
  repeat' (first|refine jx7 ?_|refine jy1 ?_ ?_|exact spF|refine spQ fun hq hq'=>?_|fail)
  open W7 in
  repeat' (first|refine jx5 ?_|refine jy0 ?_ ?_|exact spF|refine spQ fun hq hq'=>?_|refine spN fun hn=>?_|fail)
  refine aws_draws [(4,8),(8,8)] mixed (by kernel_rfl) ?_
  open W7 in
  repeat' (first|refine jx7 ?_|refine jy1 ?_ ?_|exact spF|refine spQ fun hq hq'=>?_|fail)
  open W7 in
  as_aux_lemma=>
   repeat' (first|refine jx5 ?_|refine jy0 ?_ ?_|exact spF|refine spQ fun hq hq'=>?_|refine spN fun hn=>?_|fail)
   refine ⟨(i+1,g+4,out++N1++N2++N3++N4,_),_,by dsimp only;omega,⟨by dsimp only;omega,?_⟩,.refl,by exact frA⟩
   dsimp only
   rw [hs,ho]
   simp only [List.append_assoc]
 ·have d1:decide ((i:Int) < (l.length:Int))=false:=decide_eq_false (by omega)
  obtain rfl:i=l.length:=by omega
  rw [List.take_length,List.append_assoc] at ho
  rw [← ho]
  clear ho
  open W7 in
  as_aux_lemma=>
   repeat' (first|refine jx5 ?_|refine jy0 ?_ ?_|exact spF|refine spQ fun hq hq'=>?_|refine spN fun hn=>?_|fail)
   exact rt1 rfl rfl (.one (finC_map rfl rfl rfl rfl)) rfl
structure KdW (k:Kd):Prop where
 key:okB k.1
 len:k.1.length≤20
 vec:vecOk k.2.1
 few:k.2.2.length≤400
 ent:∀ e∈k.2.2,entOk e
theorem textB_le (b:List Nat):(textB b).length≤b.length+9:=by
 unfold textB
 rw [List.length_append]
 have:=numB_le b.length
 omega
theorem cartB_le (c:Crt):(cartB c).length≤9 * c.1.length+9+36 * c.2.length:=by
 unfold cartB
 simp only [List.length_append]
 have h1:=vecB_le c.1
 have h2:=numB_le c.2.length
 have h3:=entsB_le c.2
 omega
theorem kdB_take {l:List Kd} {i:Nat} (h:i < l.length):(l.take (i+1)).flatMap kdB=(l.take i).flatMap kdB++kdB (l.getD i default):=flat_take kdB h
theorem kdW_le {k:Kd} (h:KdW k):(kdB k).length≤20000:=by
 unfold kdB
 rw [List.length_append]
 have h1:=textB_le k.1
 have h2:=cartB_le k.2
 have h3:=h.vec.1
 have h4:=h.few
 have h5:=h.len
 omega
theorem kdsW_le:∀ {l:List Kd},(∀ k∈l,KdW k)→(l.flatMap kdB).length≤20000 * l.length
 | [],_=>Nat.le_refl _
 | k::l,h=>by
  rw [List.flatMap_cons,List.length_append,List.length_cons]
  have h1:=kdW_le (h k List.mem_cons_self)
  have h2:=kdsW_le fun e he=>h e (List.mem_cons_of_mem _ he)
  omega
theorem refWriteAll_w (l:List Kd) (ex:Bool) (hl:l.length≤2000) (hk:∀ k∈l,KdW k):PCall Tryz.prog 89 [.p (.sl 10 (l.map kR) ex)] (.p (.sl 1 ((listB l).map bR) false)):=by
 refine pcall_of Tryz.func89 rfl (fun w0 F S0 M0=>?_)
 have hw:IntKind.u64.wrap (l.length:Int)=(l.length:Int):=u64_in (by omega)
 haveI:∀ c k:Nat,OC Tryz.prog 88 [.p (.k .u64 (l.length:Int))] [] [(c,k)] True (.o (.osl c (k+1) 1 0 (numB l.length).length)) [(c,(k+2,some (.buf 5 1 ((numB l.length).map bR))))]:=fun c k=>⟨fun _=>(refNum_o l.length (by omega)).fresh1 c k⟩
 have hnl:=numB_le l.length
 unfold listB
 generalize numB l.length=N at *
 open W9 in
 repeat' (first|refine jx5 ?_|refine jy0 ?_ ?_|exact spF|refine spQ fun hq hq'=>?_|refine spN fun hn=>?_|fail)
 refine aws_loopS [3,4,9,10,11,12,13,14,15,16,17,18,19,20,21,22,23,24,25,26,27,28,29,30] [8] (fun (x:Nat × Nat × List Nat)=>[(4,.p (.i x.1)),(3,.o (.osl 8 x.2.1 1 0 x.2.2.length))]) (fun x=>[(8,(x.2.1+1,some (.buf 5 1 (x.2.2.map bR))))]) (fun x=>x.1≤l.length∧x.2.2=N++(l.take x.1).flatMap kdB) (fun x=>l.length - x.1) (0,1,N) ⟨Nat.zero_le _,(List.append_nil _).symm⟩ (by exact knA) (by exact knA) ?_
 rintro ⟨i,g,out⟩ β γ ⟨hi,ho⟩
 dsimp only at hi ho ⊢
 have hol:out.length≤50000000:=by
  have:=kdsW_le (l:=l.take i) fun k h=>hk k (List.mem_of_mem_take h)
  rw [ho,List.length_append]
  rw [List.length_take] at this
  omega
 by_cases hil:i < l.length
 ·have d1:decide ((i:Int) < (l.length:Int))=true:=decide_eq_true (by omega)
  have hs:=kdB_take hil
  rw [show l.getD i default=l.getD (i:Int).toNat default by rw [Int.toNat_natCast]] at hs
  have hW:KdW (l.getD (i:Int).toNat default):=hk _ (by rw [Int.toNat_natCast,List.getD_eq_getElem?_getD,List.getElem?_eq_getElem hil];exact List.getElem_mem _)
  have okk:=hW.key
  have l20:=hW.len
  haveI n1:PC Tryz.prog 118 [.p (.sl 1 ((l.getD (i:Int).toNat default).1.map bR) false)] True (.p (.sl 1 ((textB (l.getD (i:Int).toNat default).1).map bR) false)):=⟨fun _=>refText_w _ (by omega)⟩
  haveI n2:PC Tryz.prog 161 [cV (l.getD (i:Int).toNat default).2.1 (l.getD (i:Int).toNat default).2.2 false] True (.p (.sl 1 ((cartB ((l.getD (i:Int).toNat default).2.1,(l.getD (i:Int).toNat default).2.2)).map bR) false)):=⟨fun _=>refWrite_w _ _ false hW.vec hW.few hW.ent⟩
  have q1:=textB_le (l.getD (i:Int).toNat default).1
  have q2:=cartB_le ((l.getD (i:Int).toNat default).2.1,(l.getD (i:Int).toNat default).2.2)
  have q3:=hW.vec.1
  have q4:=hW.few
  dsimp only at q2
  rw [show kdB (l.getD (i:Int).toNat default)=textB (l.getD (i:Int).toNat default).1++cartB ((l.getD (i:Int).toNat default).2.1,(l.getD (i:Int).toNat default).2.2) from rfl] at hs
  generalize textB (l.getD (i:Int).toNat default).1=N1 at *
  generalize cartB ((l.getD (i:Int).toNat default).2.1,(l.getD (i:Int).toNat default).2.2)=N2 at *
  clear hW
  open W9 in
  repeat' (first|refine jx5 ?_|refine jy0 ?_ ?_|exact spF|refine spQ fun hq hq'=>?_|refine spN fun hn=>?_|fail)
  refine aws_draws [(8,8),(15,8)] mixed (by kernel_rfl) ?_
  open W9 in
  repeat' (first|refine jx7 ?_|refine jy1 ?_ ?_|exact spF|refine spQ fun hq hq'=>?_|fail)
  open W9 in
  as_aux_lemma=>
   repeat' (first|refine jx5 ?_|refine jy0 ?_ ?_|exact spF|refine spQ fun hq hq'=>?_|refine spN fun hn=>?_|fail)
   refine ⟨(i+1,g+2,out++N1++N2),_,by dsimp only;omega,⟨by dsimp only;omega,?_⟩,.refl,by exact frA⟩
   dsimp only
   rw [hs,ho]
   simp only [List.append_assoc]
 ·have d1:decide ((i:Int) < (l.length:Int))=false:=decide_eq_false (by omega)
  obtain rfl:i=l.length:=by omega
  rw [List.take_length] at ho
  rw [← ho]
  clear ho
  open W9 in
  as_aux_lemma=>
   repeat' (first|refine jx5 ?_|refine jy0 ?_ ?_|exact spF|refine spQ fun hq hq'=>?_|refine spN fun hn=>?_|fail)
   exact rt1 rfl rfl (.one (finC_map rfl rfl rfl rfl)) rfl
theorem drop_at {a:List Nat} {i:Nat} (h:i < a.length):a.drop i=a.getD i default::a.drop (i+1):=by
 rw [List.drop_eq_getElem_cons h,List.getD_eq_getElem?_getD,List.getElem?_eq_getElem h];rfl
namespace PW7
theorem lopC {C:Ctx} {o:Oper} {σ:St} {e:Eff} {ro:Nat→Bool} (h:LOp C o σ e ro:=by
  first|(apply lop_ix_sb;(focus rfl);(focus exact inferInstance);(focus rfl);(focus assumption);(focus rfl);(focus omega);(focus omega);(focus rfl))|exact W9.lopC|fail):LOp C o σ e ro:=h
section steps
variable {C:Ctx} {ops:Array Oper} {o:Oper} {rest:List Oper} {K:St→Prop} {σ:St} {e:Eff} {ro:Nat→Bool} {W:List (Nat × Nat)} {i:Nat}
theorem rnC {d:Nat} (hg:Guard ops σ o true:=by first|exact gd_n rfl rfl|exact gd_t rfl rfl rfl rfl|exact gd_t rfl rfl rfl (by assumption)) (hd:o.dst=some d:=by rfl) (h:LOp C o σ e ro:=by exact lopC) (hk:RunN C ops rest K (e.app (some d) σ)):RunN C ops (o::rest) K σ:=rn_any hg hd h hk
theorem rkC {d:Nat} (hg:Guard ops σ o true:=by first|exact gd_n rfl rfl|exact gd_t rfl rfl rfl rfl|exact gd_t rfl rfl rfl (by assumption)) (hd':o.dst=some d:=by rfl) (hd:dOk C o.dst=true:=by rfl) (h:LOp C o σ e ro:=by exact lopC) (hro:∀ x,ro x=true→okObj ops W i x=true:=by first|exact fun _=>ro_none|exact ro_one rfl|exact ro_k1 rfl|exact ro_one (by kernel_rfl)|exact ro_k1 (by kernel_rfl)|exact ro_kIn (by decide)) (hob:∀ p∈e.obj,(i,p.1)∈W:=by first|exact ob_none|exact ob_one (by decide)|decide) (hk:RunK C ops W (i+1) rest K (e.app (some d) σ)):RunK C ops W i (o::rest) K σ:=rk_wr hg hd' hd h hro hob hk
end steps
end PW7
theorem refLess_w (a b:List Nat) (ha:okB a) (hb:okB b) (hal:a.length≤9223372036854775807) (hbl:b.length≤9223372036854775807):PCall Tryz.prog 192 [.p (.v (.string (strOf a))),.p (.v (.string (strOf b)))] (.p (.b (bLt a b))):=by
 refine pcall_of Tryz.func192 rfl (fun w0 F S0 M0=>?_)
 obtain ⟨R,hR⟩:∃ R,R=bLt a b:=⟨_,rfl⟩
 rw [← hR]
 open PW7 in
 repeat' (first|refine jx5 ?_|refine jy0 ?_ ?_|exact spF|refine spQ fun hq hq'=>?_|refine spN fun hn=>?_|fail)
 refine aws_loopS (0::1::[4,5,6,7,8,9,10,11,12,13,14,15,16,17,18,19,20,21,22,23,24,25,26,27,28,29,30,31]) [] (fun (i:Nat)=>[(5,.p (.i i)),(0,.p (.v (.string (strOf a)))),(1,.p (.v (.string (strOf b))))]) (fun _=>[]) (fun i=>i≤a.length∧i≤b.length∧R=bLt (a.drop i) (b.drop i)) (fun i=>a.length - i) 0 ⟨Nat.zero_le _,Nat.zero_le _,hR⟩ (by exact knA) (by exact knA) ?_
 rintro i β γ ⟨hia,hib,hx⟩
 clear hR
 by_cases h1:i < a.length
 ·have d1:decide ((i:Int) < (a.length:Int))=true:=decide_eq_true (by omega)
  by_cases h2:i < b.length
  ·have d2:decide ((i:Int) < (b.length:Int))=true:=decide_eq_true (by omega)
   rw [drop_at h1,drop_at h2] at hx
   rw [show a.getD i default=a.getD (i:Int).toNat default by rw [Int.toNat_natCast],show b.getD i default=b.getD (i:Int).toNat default by rw [Int.toNat_natCast]] at hx
   by_cases he:a.getD (i:Int).toNat default=b.getD (i:Int).toNat default
   ·have d3:decide (((a.getD (i:Int).toNat default:Nat):Int)≠((b.getD (i:Int).toNat default:Nat):Int))=false:=decide_eq_false fun q=>q (by omega)
    have hx2:R=bLt (a.drop (i+1)) (b.drop (i+1)):=by
     rw [hx,he,bLt];simp
    clear hx
    open PW7 in
    as_aux_lemma=>
     repeat' (first|refine jx6 ?_|refine jy0 ?_ ?_|exact spF|refine spQ fun hq hq'=>?_|refine spN fun hn=>?_|fail)
     exact ⟨i+1,_,by omega,⟨by omega,by omega,hx2⟩,.refl,by exact frA⟩
   ·have d3:decide (((a.getD (i:Int).toNat default:Nat):Int)≠((b.getD (i:Int).toNat default:Nat):Int))=true:=decide_eq_true fun q=>he (by omega)
    have hx2:R=decide (((a.getD (i:Int).toNat default:Nat):Int) < ((b.getD (i:Int).toNat default:Nat):Int)):=by
     rw [hx,bLt,if_neg he]
     exact decide_eq_decide.2 (by omega)
    rw [hx2]
    clear hx hx2
    open PW7 in
    as_aux_lemma=>
     repeat' (first|refine jx6 ?_|refine jy0 ?_ ?_|exact spF|refine spQ fun hq hq'=>?_|refine spN fun hn=>?_|fail)
     exact rt1 rfl rfl finS_p rfl
  ·have d2:decide ((i:Int) < (b.length:Int))=false:=decide_eq_false (by omega)
   have hx2:R=decide ((a.length:Int) < (b.length:Int)):=by
    rw [hx,List.drop_of_length_le (by omega:b.length≤i),decide_eq_false (by omega)]
    cases a.drop i<;>rfl
   rw [hx2]
   clear hx hx2
   open PW7 in
   as_aux_lemma=>
    repeat' (first|refine jx5 ?_|refine jy0 ?_ ?_|exact spF|refine spQ fun hq hq'=>?_|refine spN fun hn=>?_|fail)
    exact rt1 rfl rfl finS_p rfl
 ·have d1:decide ((i:Int) < (a.length:Int))=false:=decide_eq_false (by omega)
  have hx2:R=decide ((a.length:Int) < (b.length:Int)):=by
   rw [hx,List.drop_of_length_le (by omega:a.length≤i)]
   by_cases h2:i < b.length
   ·rw [drop_at h2,decide_eq_true (by omega)];rfl
   ·rw [List.drop_of_length_le (by omega:b.length≤i),decide_eq_false (by omega)];rfl
  rw [hx2]
  clear hx hx2
  open PW7 in
  as_aux_lemma=>
   repeat' (first|refine jx5 ?_|refine jy0 ?_ ?_|exact spF|refine spQ fun hq hq'=>?_|refine spN fun hn=>?_|fail)
   exact rt1 rfl rfl finS_p rfl
end Go.Proofs.YtcbhmngagibhmaaGreat.Wi
namespace Go.Proofs.YtcbhmngagibhmaaGreat.Wi
open Go Go.RowKit Go.Aw Go.Aw.Cart Go.Proofs.YtcbhmngagibhmaaGreat.Ca
set_option linter.unusedVariables false
set_option linter.unusedSimpArgs false
set_option maxRecDepth 8000
set_option maxHeartbeats 4000000
namespace WA
theorem lopC {C:Ctx} {o:Oper} {σ:St} {e:Eff} {ro:Nat→Bool} (h:LOp C o σ e ro:=by
  first|(apply lop_cv_sb;(focus rfl);(focus exact inferInstance);(focus exact inferInstance);(focus exact inferInstance);(focus rfl);(focus assumption);(focus first|(simp only [maxLen,List.length_append,List.length_cons,List.length_nil,List.length_take,List.length_drop,List.length_map];omega)|omega);(focus rfl))|(apply lop_cv_bs;(focus rfl);(focus exact inferInstance);(focus exact inferInstance);(focus exact inferInstance);(focus rfl);(focus rfl))|exact W9.lopC|fail):LOp C o σ e ro:=h
section steps
variable {C:Ctx} {ops:Array Oper} {o:Oper} {rest:List Oper} {K:St→Prop} {σ:St} {e:Eff} {ro:Nat→Bool} {W:List (Nat × Nat)} {i:Nat}
theorem rnC {d:Nat} (hg:Guard ops σ o true:=by first|exact gd_n rfl rfl|exact gd_t rfl rfl rfl rfl|exact gd_t rfl rfl rfl (by assumption)) (hd:o.dst=some d:=by rfl) (h:LOp C o σ e ro:=by exact lopC) (hk:RunN C ops rest K (e.app (some d) σ)):RunN C ops (o::rest) K σ:=rn_any hg hd h hk
theorem rkC {d:Nat} (hg:Guard ops σ o true:=by first|exact gd_n rfl rfl|exact gd_t rfl rfl rfl rfl|exact gd_t rfl rfl rfl (by assumption)) (hd':o.dst=some d:=by rfl) (hd:dOk C o.dst=true:=by rfl) (h:LOp C o σ e ro:=by exact lopC) (hro:∀ x,ro x=true→okObj ops W i x=true:=by first|exact fun _=>ro_none|exact ro_one rfl|exact ro_k1 rfl|exact ro_one (by kernel_rfl)|exact ro_k1 (by kernel_rfl)|exact ro_kIn (by decide)) (hob:∀ p∈e.obj,(i,p.1)∈W:=by first|exact ob_none|exact ob_one (by decide)|decide) (hk:RunK C ops W (i+1) rest K (e.app (some d) σ)):RunK C ops W i (o::rest) K σ:=rk_wr hg hd' hd h hro hob hk
end steps
end WA
open WA
theorem kdB_len {k:Kd} (h:k.1.length≤20) (hv:vecOk k.2.1) (hr:rightF k.2.1 k.2.2=true):(kdB k).length≤20029:=by
 have h1:=cartB_len hv hr
 have h2:=numI_len ((k.1.length:Nat):Int)
 rw [numI_nat] at h2
 unfold kdB textB
 rw [List.length_append,List.length_append]
 have h3:(cartB k.2).length≤20000:=h1
 omega
theorem writeAll_ok (l:List Kd) (ex:Bool) (hk:keysF l=true) (hin:∀ k∈l,KdI k):PCall Tryz.prog 63 [.p (.sl 10 (l.map kR) ex)] (.tup [.one (.p (.sl 1 ((listB l).map bR) false)),.one (.p (.i 0))]):=by
 refine pcall_of Tryz.func63 rfl (fun w0 F S0 M0=>?_)
 have ho:=keys_iff.1 hk
 have hl:=ho.few
 haveI:PC Tryz.prog 52 [.p (.sl 10 (l.map kR) ex)] True (.p (.b true)):=⟨fun _=>by
  have:=pright_w l ex (by omega) hin (fun k hm=>by have:=(ok_iff.1 (ho.cart k hm)).few;omega)
  rwa [hk] at this⟩
 have d0:(!true)=false:=rfl
 have b1:l.length < 18446744073709551616:=by omega
 have hnl:=numI_len (l.length:Int)
 rw [numI_nat] at hnl
 have hB:listB l=numB l.length++l.flatMap kdB:=rfl
 rw [hB]
 repeat' (first|refine jx5 ?_|refine jy0 ?_ ?_|exact spF|refine spQ fun hq hq'=>?_|refine spN fun hn=>?_|fail)
 refine rn_says (says_wr (p:=11) rfl) rfl ?_
 repeat' (first|refine jx5 ?_|refine jy0 ?_ ?_|exact spF|refine spQ fun hq hq'=>?_|refine spN fun hn=>?_|fail)
 have e0:([]++numB l.length:List Nat)=numB l.length:=rfl
 rw [e0]
 generalize numB l.length=B0 at hnl ⊢
 refine aws_loopS [6,19,20,21,22,23,24,25,26,27,28,29,30,31,32] [11,6] (fun (x:Nat × List Nat × Option MO)=>[(19,.p (.i x.1))]) (fun x=>[(11,(1,some (.abs (wrA x.2.1)))),(6,(x.1,x.2.2))]) (fun x=>x.1≤l.length∧x.2.1=B0++(l.take x.1).flatMap kdB∧x.2.1.length≤9+20029 * x.1) (fun x=>l.length - x.1) (0,B0,none) ⟨Nat.zero_le _,by simp,by dsimp only;omega⟩ (by exact knA) (by exact knA) ?_
 rintro ⟨i,L,c6⟩ β γ ⟨hi,hL,hll⟩
 dsimp only at hi hL hll ⊢
 by_cases hil:i < l.length
 ·have d1:decide ((i:Int) < (l.length:Int))=true:=decide_eq_true (by omega)
  have ei:(i:Int).toNat=i:=Int.toNat_natCast i
  have hm:l.getD (i:Int).toNat default∈l:=by rw [ei,getD_at hil];exact List.getElem_mem _
  have okx:=(hin _ hm).key
  have vx:=(hin _ hm).vec
  have kx:=ho.key _ hm
  have rx:=ho.cart _ hm
  have hkl:=kdB_len kx vx rx
  have hft:=flat_take kdB hil
  rw [← ei] at hft
  have kx':(l.getD (i:Int).toNat default).1.length≤1000000:=by omega
  have g1:L.length≤900000000:=by omega
  have ht:(textB (l.getD (i:Int).toNat default).1).length≤29:=by
   have h2:=numI_len (((l.getD (i:Int).toNat default).1.length:Nat):Int)
   rw [numI_nat] at h2
   unfold textB
   rw [List.length_append];omega
  have g2:(L++textB (l.getD (i:Int).toNat default).1).length≤800000000:=by rw [List.length_append];omega
  have e2:L++textB (l.getD (i:Int).toNat default).1++cartB ((l.getD (i:Int).toNat default).2.1,(l.getD (i:Int).toNat default).2.2)=L++kdB (l.getD (i:Int).toNat default):=by rw [List.append_assoc];rfl
  have hn:L++textB (l.getD (i:Int).toNat default).1++cartB ((l.getD (i:Int).toNat default).2.1,(l.getD (i:Int).toNat default).2.2)=B0++(l.take (i+1)).flatMap kdB:=by
   rw [e2,hL]
   rw [show (i:Int).toNat=i from ei] at hft ⊢
   rw [hft,List.append_assoc]
  have g5:(L++textB (l.getD (i:Int).toNat default).1++cartB ((l.getD (i:Int).toNat default).2.1,(l.getD (i:Int).toNat default).2.2)).length≤9+20029 * (i+1):=by rw [e2,List.length_append];omega
  clear hft hL e2 hkl hin ho kx
  as_aux_lemma=>
   repeat' (first|refine jx5 ?_|refine jy0 ?_ ?_|exact spF|refine spQ fun hq hq'=>?_|refine spN fun hn=>?_|fail)
   exact ⟨(i+1,_,_),_,by dsimp only;omega,⟨by dsimp only;omega,hn,g5⟩,.refl,by exact frA⟩
 ·have d1:decide ((i:Int) < (l.length:Int))=false:=decide_eq_false (by omega)
  rw [List.take_of_length_le (by omega)] at hL
  rw [← hL]
  clear hL hin ho
  have hl9:L.length≤1000000000:=by omega
  as_aux_lemma=>
   repeat' (first|refine jx5 ?_|refine jy0 ?_ ?_|exact spF|refine spQ fun hq hq'=>?_|refine spN fun hn=>?_|fail)
   exact rt2 rfl rfl finS_p rfl finS_p rfl
end Go.Proofs.YtcbhmngagibhmaaGreat.Wi
namespace Go.Proofs.YtcbhmngagibhmaaGreat.Sh
open Go Go.RowKit Go.Aw Go.Aw.Sha
set_option linter.unusedVariables false
set_option linter.unusedSimpArgs false
set_option maxRecDepth 8000
set_option maxHeartbeats 4000000
attribute [local irreducible] pad blocks block sum
theorem okB_pad {b:List Nat} (h:okB b):okB (pad b):=by
 unfold pad
 refine okB.append (okB.append (okB.append h (okB.cons (by decide) .nil)) ?_) ?_
 ·intro n hn
  rw [List.eq_of_mem_replicate hn];decide
 ·intro n hn
  obtain ⟨i,_,rfl⟩:=List.mem_map.1 hn
  exact Nat.mod_lt _ (by decide)
theorem okB_chunk {b:List Nat} (h:okB b) (n m:Nat):okB ((b.drop n).take m):=fun x hx=>h x (List.mem_of_mem_drop (List.mem_of_mem_take hx))
theorem rsum_c (b:List Nat) (ex:Bool) (h:b.length≤500000000) (hb:okB b):PCall Tryz.prog 219 [bytesN b ex] (.a ((sum b).map bc)):=by
 refine pcall_of Tryz.func219 rfl (fun w0 F S0 M0=>?_)
 have hp:(pad b).length≤1000000000:=by rw [pad_len];unfold zeros;omega
 have hp64:=pad_64 b
 have hpo:=okB_pad hb
 have hsum:sum b=digest (blocks (pad b) ((pad b).length / 64)):=sum_def _
 repeat' (first|refine jx17 ?_|refine jy0 ?_ ?_|exact spF|refine spQ fun hq hq'=>?_|refine spN fun hn=>?_|fail)
 generalize hP:pad b=P at hp hp64 hsum hpo ⊢
 refine aws_loopS [5,11,12,13,14,15,16,17,18,19,20,21,22,23] [3] (fun (x:Nat × Int × V8)=>[(5,.p (.i x.2.1))]) (fun x=>[(3,(1,some (.box 148 (u8c x.2.2))))])
  (fun x=>x.1≤P.length / 64∧x.2.1=64 * (x.1:Int)∧x.2.2=blocks P x.1) (fun x=>P.length / 64 - x.1) (0,0,firstV) ⟨Nat.zero_le _,rfl,blocks_zero P⟩ (by exact knA) (by exact knA) ?_
 rintro ⟨j,t,v⟩ β γ ⟨hj,ht,hv⟩
 simp only at hj ht hv
 dsimp only
 by_cases hjl:j < P.length / 64
 ·have hd:decide (t < (P.length:Int))=true:=decide_eq_true (by omega)
  have hcl:((P.drop t.toNat).take ((t+64).toNat - t.toNat)).length=64:=by simp only [List.length_take,List.length_drop];omega
  have hco:okB ((P.drop t.toNat).take ((t+64).toNat - t.toNat)):=okB_chunk hpo _ _
  have hvo:v.ok:=by rw [hv];exact blocks_ok P j
  obtain ⟨B,hB⟩:∃ B,B=block v ((P.drop t.toNat).take ((t+64).toNat - t.toNat)):=⟨_,rfl⟩
  haveI:PC Tryz.prog 237 [.a (u8c v),bytesN ((P.drop t.toNat).take ((t+64).toNat - t.toNat)) false] True (.a (u8c B)):=⟨fun _=>by rw [hB];exact rnext_c v _ false hcl hco hvo⟩
  repeat' (first|refine jx19 ?_|refine jy0 ?_ ?_|exact spF|refine spQ fun hq hq'=>?_|refine spN fun hn=>?_|fail)
  refine aws_draws [(7,3)] mixed (by kernel_rfl) ?_
  repeat' (first|refine jx20 ?_|refine jy1 ?_ ?_|exact spF|refine spQ fun hq hq'=>?_|fail)
  repeat' (first|refine jx19 ?_|refine jy0 ?_ ?_|exact spF|refine spQ fun hq hq'=>?_|refine spN fun hn=>?_|fail)
  refine ⟨(j+1,t+64,B),_,by dsimp only;omega,⟨by dsimp only;omega,by dsimp only;omega,?_⟩,.refl,by exact frA⟩
  dsimp only
  rw [blocks_succ,← hv,hB,chunkAt,show t.toNat=64 * j by omega,show (t+64).toNat - 64 * j=64 by omega]
 ·have hd:decide (t < (P.length:Int))=false:=decide_eq_false (by omega)
  repeat' (first|refine jx19 ?_|refine jy0 ?_ ?_|exact spF|refine spQ fun hq hq'=>?_|refine spN fun hn=>?_|fail)
  have hj':j=P.length / 64:=by omega
  obtain ⟨va,vb,vc,vd,ve,vf,vg,vh⟩:=v
  generalize hV:(V8.mk va vb vc vd ve vf vg vh)=V at hv
  have hvl:V.list=[va,vb,vc,vd,ve,vf,vg,vh]:=by rw [← hV];rfl
  refine aws_loopS [7,24,25,26,27,28,29,30,31,32,33,34,35,36,37,38,39] [3,6] (fun (x:Nat × List Nat)=>[(7,.p (.i x.1))]) (fun x=>[(3,(1,some (.box 148 (V.list.map uc)))),(6,(1,some (.box 22 (x.2.map bc))))])
   (fun x=>x.1≤32∧x.2=digTo V x.1) (fun x=>32 - x.1) (0,digTo V 0) ⟨Nat.zero_le _,rfl⟩ (by exact knA) (by subst hV;exact knA) ?_
  rintro ⟨i,ds⟩ β' γ' ⟨hi,hds⟩
  simp only at hi hds
  have hdl:ds.length=32:=by rw [hds];exact digTo_len V _
  have hVl:V.list.length=8:=rfl
  dsimp only
  by_cases hi32:i < 32
  ·have hdi:decide ((i:Int) < 32)=true:=decide_eq_true (by omega)
   repeat' (first|refine jx19 ?_|refine jy0 ?_ ?_|exact spF|refine spQ fun hq hq'=>?_|refine spN fun hn=>?_|fail)
   repeat' (first|refine jx17 ?_|refine jy0 ?_ ?_|exact spF|refine spQ fun hq hq'=>?_|refine spN fun hn=>?_|fail)
   apply ex2 (i+1)
   apply Exists.intro
   refine ⟨?_,⟨?_,?_⟩,.refl,?_⟩
   rotate_left 3
   (focus exact frA)
   ·dsimp only;omega
   ·dsimp only;omega
   ·dsimp only
    have e1:((i:Int) / 4).toNat=i / 4:=by omega
    have e2:((24:Int) - 8 * ((i:Int) % 4)).toNat=24 - 8 * (i % 4):=by omega
    rw [e1,e2,Int.toNat_natCast,digTo,← hds]
    rfl
  ·have hdi:decide ((i:Int) < 32)=false:=decide_eq_false (by omega)
   repeat' (first|refine jx19 ?_|refine jy0 ?_ ?_|exact spF|refine spQ fun hq hq'=>?_|refine spN fun hn=>?_|fail)
   refine rc1 rfl rfl rfl rfl rfl (by simpa using hdl) finL_p ?_
   rw [hds,show i=32 by omega,digTo_all,hsum,← hj',hv]
end Go.Proofs.YtcbhmngagibhmaaGreat.Sh
