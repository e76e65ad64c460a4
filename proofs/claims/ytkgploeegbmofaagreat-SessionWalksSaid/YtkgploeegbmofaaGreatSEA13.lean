/- packs: a cart's bytes, written -/
import Derived.Test.YtkgploeegbmofaaGreatSEA12
import Derived.Test.YtkgploeegbmofaaGreatSEA14
import Derived.Laws.Cover1
namespace Go.Proofs.YtkgploeegbmofaaGreat.Wi
open Go Go.RowKit Go.Aw Go.Aw.Cart Go.Proofs.YtkgploeegbmofaaGreat.Ca
set_option linter.unusedVariables false
set_option linter.unusedSimpArgs false
set_option maxRecDepth 8000
set_option maxHeartbeats 4000000
theorem says_wr0 {C:Ctx} {σ:St} {p np ty tyB es:Nat} (hp:σ.mem p=(np,some (.box ty [.p (.v (.slice none 0 0))]))) (hes:0 < es):Says C σ (σ.put p (np,some (.abs (pkA ty [] [] tyB es [])))):=by
 rintro a w ⟨G,h⟩
 obtain ⟨g,m,hg,hmm,b,arr,h1,h2,h3,h4⟩:=h.mem p _ _ hp
 have hlen:(G.μ p).length=np:=by have:=h.gens p;rw [hp] at this;exact this
 refine ⟨_,h.upd (o:=p) (n':=np) (mo':=some (.abs (pkA ty [] [] tyB es []))) (μo:=G.μ p) (fp':=G.φ p) (w':=w) (fun g x hx=>hx) hlen rfl .same rfl (Nat.le_refl _) (fun _ _ _=>rfl) (fun b hb=>⟨.inl hb,(h.own p b hb).2⟩) (fun mo1 hmo=>?_)⟩
 obtain rfl:=Option.some.inj hmo
 obtain ⟨x,l,rfl,k1,k2⟩:=h4.cons_inv
 obtain rfl:=k2.nil_inv
 obtain ⟨rfl,_⟩:=k1
 exact ⟨g,m,hg,hmm,b,h1,none,0,[],[],[],h3,h2,by simp,.nil,.nil,hes,by simp [maxLen],Nat.le_refl _,.inl ⟨rfl,rfl,rfl⟩⟩
theorem says_wr {C:Ctx} {σ:St} {p np:Nat} (hp:σ.mem p=(np,some (.box 156 [.p (.v (.slice none 0 0))]))):Says C σ (σ.put p (np,some (.abs (wrA [])))):=says_wr0 hp (by decide)
abbrev v8L (v:List Int):List AC:=[.p (.k .u64 (v.getD 0 default)),.p (.k .u64 (v.getD 1 default)),.p (.k .u64 (v.getD 2 default)),.p (.k .u64 (v.getD 3 default)),.p (.k .u64 (v.getD 4 default)),.p (.k .u64 (v.getD 5 default)),.p (.k .u64 (v.getD 6 default)),.p (.k .u64 (v.getD 7 default))]
theorem vV8 {v:List Int} (h:v.length=8):vV v=.a (v8L v):=by
 show AV.a (v.map _)=_
 conv=>lhs;rw [v8_eq h]
 rfl
namespace W7
theorem lopC {C:Ctx} {o:Oper} {σ:St} {e:Eff} {ro:Nat→Bool} (h:LOp C o σ e ro:=by
  first
   | exact lopV
   | exact W6.lopC
   | (apply lop_call1;(focus rfl);(focus exact inferInstance);(focus exact lk_cart rfl);(focus exact inferInstance);(focus exact inferInstance);(focus first|exact True.intro|assumption|rfl|omega|((repeat' (first|assumption|refine And.intro ?_ ?_|omega|rfl));done)|fail);(focus rfl))
      | (apply lop_call2;(focus rfl);(focus exact inferInstance);(focus exact lk_cart rfl);(focus exact lk_cart rfl);(focus exact inferInstance);(focus exact inferInstance);(focus first|exact True.intro|assumption|rfl|omega|((repeat' (first|assumption|refine And.intro ?_ ?_|omega|rfl));done)|fail);(focus rfl))
      | (apply lop_call2;(focus rfl);(focus exact inferInstance);(focus exact lk_cart rfl);(focus first|exact lk_m1 rfl|exact lk_m2 rfl|exact lk_m3 rfl|exact lk_o rfl|exact lk_a2 rfl|exact lk_a3 rfl|exact lk_a4 rfl|exact lk_a1 rfl|exact lk_a5 rfl|exact lk_a6 rfl|exact lk_a7 rfl|exact lk_a8 rfl|exact lk_a rfl);(focus exact inferInstance);(focus exact inferInstance);(focus first|exact True.intro|assumption|rfl|omega|((repeat' (first|assumption|refine And.intro ?_ ?_|omega|rfl));done)|fail);(focus rfl))
   | fail):LOp C o σ e ro:=h
section steps
variable {C:Ctx} {ops:Array Oper} {o:Oper} {rest:List Oper} {K:St→Prop} {σ:St} {e:Eff} {ro:Nat→Bool} {W:List (Nat × Nat)} {i:Nat}
theorem rnC {d:Nat} (hg:Guard ops σ o true:=by first|exact gd_n rfl rfl|exact gd_t rfl rfl rfl rfl|exact gd_t rfl rfl rfl (by assumption)) (hd:o.dst=some d:=by rfl) (h:LOp C o σ e ro:=by exact lopC) (hk:RunN C ops rest K (e.app (some d) σ)):RunN C ops (o::rest) K σ:=rn_any hg hd h hk
end steps
end W7
open W7
theorem put_ok (n:Nat) (bs:List Nat) (v:List Int) (l:List Ent) (ex:Bool) (hv:vecOk v) (hr:rightF v l=true) (h:bs.length≤800000000):OCall Tryz.prog 130 [.o (.ptr 1000 n 0),cV v l ex] (memL [(1000,(n+1,some (.abs (wrA bs))))]) (.tup []) (memL [(1000,(n+1,some (.abs (wrA (bs++cartB (v,l))))))]):=by
 refine ocall_of1 Tryz.func130 rfl (fun w0 F S0 M0=>?_)
 have h8:=hv.1
 have hl:l.length≤400:=(ok_iff.1 hr).few
 have hes:=ok_ents (c:=(v,l)) hr hv
 haveI:PC Tryz.prog 66 [cV v l ex] True (.p (.b true)):=⟨fun _=>by have:=right_w v l ex h8 (by omega);rwa [hr] at this⟩
 have d1:(!true)=false:=rfl
 have hvl:(vecB v).length≤72:=by
  obtain ⟨a0,a1,a2,a3,a4,a5,a6,a7,rfl⟩:∃ a0 a1 a2 a3 a4 a5 a6 a7,v=[a0,a1,a2,a3,a4,a5,a6,a7]:=⟨_,_,_,_,_,_,_,_,v8_eq h8⟩
  have:=numI_len a0;have:=numI_len a1;have:=numI_len a2;have:=numI_len a3;have:=numI_len a4;have:=numI_len a5;have:=numI_len a6;have:=numI_len a7
  simp only [vecB,List.flatMap_cons,List.flatMap_nil,List.length_append,List.length_nil]
  omega
 haveI:∀ c g m:Nat,OC Tryz.prog 162 [.o (.ptr c g 0),.a (v8L v)] [(c,(m,some (.abs (wrA bs))))] [] (m=g+1) (.tup []) [(c,(m,some (.abs (wrA (bs++vecB v)))))]:=fun c g m=>⟨fun hm=>by
  obtain rfl:=hm
  rw [← vV8 h8]
  have:=(wvec_o g bs v h8 hv.2 (by omega)).one c
  rw [List.map_cons,List.map_cons,ren_vV] at this
  exact this⟩
 have b1:l.length < 18446744073709551616:=by omega
 have hnl:=numI_len (l.length:Int)
 rw [numI_nat] at hnl
 have hB:cartB (v,l)=vecB v++numB l.length++l.flatMap entB:=by unfold cartB;rw [List.append_assoc]
 have hB0:(bs++vecB v).length≤1000000000:=by rw [List.length_append];omega
 rw [hB,← List.append_assoc,← List.append_assoc]
 repeat' (first|refine jx5 ?_|refine jy0 ?_ ?_|exact spF|refine spQ fun hq hq'=>?_|refine spN fun hn=>?_|fail)
 have hB1:(bs++vecB v++numB l.length).length≤800000100:=by rw [List.length_append,List.length_append];omega
 generalize bs++vecB v++numB l.length=B0 at hB1 ⊢
 refine aws_loopS [5,22,23,24,25,26,27,28,29,30,31,32,33,34,35,36,37,38,39,40,41,42,43,44] [1000,5] (fun (x:Nat × List Nat × Option MO)=>[(22,.p (.i x.1))]) (fun x=>[(1000,(n+1,some (.abs (wrA x.2.1)))),(5,(x.1,x.2.2))]) (fun x=>x.1≤l.length∧x.2.1=B0++(l.take x.1).flatMap entB∧x.2.1.length≤B0.length+36 * x.1) (fun x=>l.length - x.1) (0,B0,none) ⟨Nat.zero_le _,by simp,by simp⟩ (by exact knA) (by exact knA) ?_
 rintro ⟨i,L,c5⟩ β γ ⟨hi,hL,hll⟩
 dsimp only at hi hL hll ⊢
 by_cases hil:i < l.length
 ·have d2:decide ((i:Int) < (l.length:Int))=true:=decide_eq_true (by omega)
  have ei:(i:Int).toNat=i:=Int.toNat_natCast i
  have hft:=flat_take entB hil
  rw [← ei] at hft
  obtain ⟨e,he⟩:∃ e,e=l.getD (i:Int).toNat default:=⟨_,rfl⟩
  have hek:=hes e (by rw [he,ei,getD_at hil];exact List.getElem_mem _)
  obtain ⟨k1,k2,k3,k4⟩:=hek
  have n1:=numI_len e.1
  have n2:=numI_len e.2.1
  have n3:=numI_len e.2.2.1
  have n4:=numI_len ((zig e.2.2.2:Nat):Int)
  rw [numI_nat] at n4
  have n4':(intB e.2.2.2).length≤9:=n4
  have g1:L.length≤1000000000:=by omega
  have g2:(L++numI e.1).length≤1000000000:=by rw [List.length_append];omega
  have g3:(L++numI e.1++numI e.2.1).length≤1000000000:=by rw [List.length_append,List.length_append];omega
  have g4:(L++numI e.1++numI e.2.1++numI e.2.2.1).length≤1000000000:=by rw [List.length_append,List.length_append,List.length_append];omega
  have g5:(L++numI e.1++numI e.2.1++numI e.2.2.1++intB e.2.2.2).length≤B0.length+36 * (i+1):=by rw [List.length_append,List.length_append,List.length_append,List.length_append];omega
  have hn:L++numI e.1++numI e.2.1++numI e.2.2.1++intB e.2.2.2=B0++(l.take (i+1)).flatMap entB:=by
   rw [show (i:Int).toNat=i from ei] at hft he
   rw [hft,hL,← he]
   simp only [entB,List.append_assoc]
  have w1:IntKind.u64.wrap e.1=e.1:=u64_in (by omega)
  have w2:IntKind.u64.wrap e.2.1=e.2.1:=u64_in (by omega)
  have k1':0≤e.1∧e.1 < 18446744073709551616:=by omega
  have k2':0≤e.2.1∧e.2.1 < 18446744073709551616:=by omega
  have k4' : -9223372036854775808≤e.2.2.2∧e.2.2.2≤9223372036854775807:=by omega
  clear hft hL n1 n2 n3 n4 n4' k1 k2 k4
  subst he
  as_aux_lemma=>
   repeat' (first|refine jx5 ?_|refine jy0 ?_ ?_|exact spF|refine spQ fun hq hq'=>?_|refine spN fun hn=>?_|fail)
   exact ⟨(i+1,_,_),_,by dsimp only;omega,⟨by dsimp only;omega,hn,g5⟩,.refl,by exact frA⟩
 ·have d2:decide ((i:Int) < (l.length:Int))=false:=decide_eq_false (by omega)
  rw [List.take_of_length_le (by omega)] at hL
  rw [← hL]
  as_aux_lemma=>
   repeat' (first|refine jx5 ?_|refine jy0 ?_ ?_|exact spF|refine spQ fun hq hq'=>?_|refine spN fun hn=>?_|fail)
   exact RetO.mk (res0 rfl rfl) ⟨.abs,trivial⟩
instance put_i {c g n:Nat} {bs:List Nat} {v:List Int} {l:List Ent} {ex:Bool}:OC Tryz.prog 130 [.o (.ptr c g 0),cV v l ex] [(c,(n,some (.abs (wrA bs))))] [] (n=g+1∧vecOk v∧rightF v l=true∧bs.length≤800000000) (.tup []) [(c,(n,some (.abs (wrA (bs++cartB (v,l))))))]:=⟨fun h=>by obtain ⟨rfl,h1,h2,h3⟩:=h;exact (put_ok g bs v l ex h1 h2 h3).one c⟩
end Go.Proofs.YtkgploeegbmofaaGreat.Wi
namespace Go.Proofs.YtkgploeegbmofaaGreat.Wi
open Go Go.RowKit Go.Aw Go.Aw.Cart Go.Proofs.YtkgploeegbmofaaGreat.Ca
set_option linter.unusedVariables false
set_option linter.unusedSimpArgs false
set_option maxRecDepth 8000
set_option maxHeartbeats 4000000
open W7
end Go.Proofs.YtkgploeegbmofaaGreat.Wi
namespace Go.Proofs.YtkgploeegbmofaaGreat.Wi
open Go Go.RowKit Go.Aw Go.Aw.Cart Go.Proofs.YtkgploeegbmofaaGreat.Ca
set_option linter.unusedVariables false
set_option linter.unusedSimpArgs false
set_option maxRecDepth 8000
set_option maxHeartbeats 4000000
namespace W8
theorem lopC {C:Ctx} {o:Oper} {σ:St} {e:Eff} {ro:Nat→Bool} (h:LOp C o σ e ro:=by
  first|exact W7.lopC|fail):LOp C o σ e ro:=h
end W8
open W8
attribute [local irreducible] vecS smallS entS cartS
end Go.Proofs.YtkgploeegbmofaaGreat.Wi
namespace Go.Aw
open Go Go.RowKit
theorem u8_lt {x y:Nat} (hx:x < 256) (hy:y < 256):(UInt8.ofNat x < UInt8.ofNat y)↔x < y:=by
 rw [UInt8.lt_iff_toNat_lt,UInt8.toNat_ofNat',UInt8.toNat_ofNat',Nat.mod_eq_of_lt (by omega),Nat.mod_eq_of_lt (by omega)]
theorem u8_eq {x y:Nat} (hx:x < 256) (hy:y < 256):(UInt8.ofNat x=UInt8.ofNat y)↔x=y:=by
 rw [← UInt8.toNat_inj,UInt8.toNat_ofNat',UInt8.toNat_ofNat',Nat.mod_eq_of_lt (by omega),Nat.mod_eq_of_lt (by omega)]
end Go.Aw
namespace Go.Proofs.YtkgploeegbmofaaGreat.Wi
open Go Go.RowKit Go.Aw Go.Aw.Cart Go.Proofs.YtkgploeegbmofaaGreat.Ca
set_option linter.unusedVariables false
set_option linter.unusedSimpArgs false
set_option maxRecDepth 8000
set_option maxHeartbeats 4000000
theorem bless:∀ {a b:List Nat},okB a→okB b→Op.bytesLess (a.map UInt8.ofNat) (b.map UInt8.ofNat)=bLt a b
 | [],[],_,_=>rfl
 | _::_,[],_,_=>rfl
 | [],_::_,_,_=>rfl
 | x::a,y::b,ha,hb=>by
  have hx:=ha x List.mem_cons_self
  have hy:=hb y List.mem_cons_self
  have ih:=bless (a:=a) (b:=b) (fun c hc=>ha c (List.mem_cons_of_mem _ hc)) (fun c hc=>hb c (List.mem_cons_of_mem _ hc))
  rw [List.map_cons,List.map_cons,Op.bytesLess,ih,bLt]
  by_cases e:x=y
  ·subst e
   rw [if_pos rfl]
   have h1:decide (UInt8.ofNat x < UInt8.ofNat x)=false:=decide_eq_false (by rw [u8_lt hx hx];omega)
   simp [h1]
  ·rw [if_neg e]
   have h1:(UInt8.ofNat x == UInt8.ofNat y)=false:=by
    rw [Bool.eq_false_iff]
    intro q
    exact e ((u8_eq hx hy).1 (by simpa using q))
   have h2:decide (UInt8.ofNat x < UInt8.ofNat y)=decide (x < y):=decide_eq_decide.2 (u8_lt hx hy)
   rw [h1,h2];simp
theorem str_list (a:List Nat):(strOf a).toList=a.map UInt8.ofNat:=by
 rw [ByteArray.toList_eq];simp [strOf]
theorem str_eqL {a b:List Nat} (ha:okB a) (hb:okB b):((strOf a).toList == (strOf b).toList)=decide (a=b):=by
 rw [ByteArray.toList_eq,ByteArray.toList_eq];exact eq_str ha hb
theorem lop_sge {C:Ctx} {o:Oper} {σ:St} {t t':TypeId} {x y:Operand} {sz by_:Nat} {a b:List Nat} (ho:o.op=.binOp .geq t x y t') (hT:TI C.P t .string sz by_) (hx:σ.look x=.p (.v (.string (strOf a)))) (hy:σ.look y=.p (.v (.string (strOf b)))) (ha:okB a) (hb:okB b) (hd:dOk C o.dst=true) :
  LOp C o σ ⟨.p (.v (.bool (!bLt a b))),[]⟩ (fun _=>false):=
 lop_bin ho hx hy (fun w=>by
  obtain ⟨d,hdd,hk⟩:=hT.undd
  have:d=.string:=by cases d<;>simp [TK.of] at hk;rfl
  subst this
  have e:(eqGuard .geq t x y (.string (strOf a)) (.string (strOf b))).run C.P w=.ok () w:=by unfold eqGuard;simp [pure]
  simp only [Sem.run_bind,e,Result.andThen_ok]
  rw [binOp_string_geq,str_list,str_list,bless ha hb];rfl) rfl hd
theorem lop_sgt {C:Ctx} {o:Oper} {σ:St} {t t':TypeId} {x y:Operand} {sz by_:Nat} {a b:List Nat} (ho:o.op=.binOp .gtr t x y t') (hT:TI C.P t .string sz by_) (hx:σ.look x=.p (.v (.string (strOf a)))) (hy:σ.look y=.p (.v (.string (strOf b)))) (ha:okB a) (hb:okB b) (hd:dOk C o.dst=true) :
  LOp C o σ ⟨.p (.v (.bool (bLt b a))),[]⟩ (fun _=>false):=
 lop_bin ho hx hy (fun w=>by
  obtain ⟨d,hdd,hk⟩:=hT.undd
  have:d=.string:=by cases d<;>simp [TK.of] at hk;rfl
  subst this
  have e:(eqGuard .gtr t x y (.string (strOf a)) (.string (strOf b))).run C.P w=.ok () w:=by unfold eqGuard;simp [pure]
  have e3:(!(bLt a b||decide (a=b)))=bLt b a:=by
   cases h1:bLt a b with
   | true=>rw [bLt_asym h1];rfl
   | false=>
    by_cases h2:a=b
    ·subst h2;rw [bLt_irr,decide_eq_true rfl];rfl
    ·rw [decide_eq_false h2]
     cases h3:bLt b a with
     | true=>rfl
     | false=>exact absurd (bLt_tri h1 h3) h2
  simp only [Sem.run_bind,e,Result.andThen_ok]
  rw [binOp_string_gtr,str_eqL ha hb,str_list,str_list,bless ha hb,e3];rfl) rfl hd
theorem map_of {row:List PVal} {ds:List AC} (h:All2 (fun (p:PVal) (c:AC)=>AC.p p=c) row ds):row.map AC.p=ds:=by
 refine List.ext_getElem (by simp [h.1]) fun i h1 h2=>?_
 have h3:i < row.length:=by simpa using h1
 have:=h.2 i row[i] ds[i] (by simp [h3]) (by simp [h2])
 simpa using this
theorem lop_ld_atn {C:Ctx} {o:Oper} {σ:St} {T:TypeId} {x:Operand} {k:TK} {sz by_:Nat} {row:List PVal} {ds:List AC} (ho:o.op=.load T x) (hT:TI C.P T k sz by_) (hx:σ.look x=.p (.at_ row)) (hk:k.agg=true) (h0:0 < sz) (hs:row.length=sz) (hds:All2 (fun (p:PVal) (c:AC)=>AC.p p=c) row ds) (hd:dOk C o.dst=true):LOp C o σ ⟨.a ds,[]⟩ (fun _=>false):=by
 subst hs
 have:=lop_load_at (o:=o) ho hx hk h0 (by simp) hd
 rw [List.take_length,map_of hds] at this
 exact this
theorem lop_ld_t9 {C:Ctx} {o:Oper} {σ:St} {T:TypeId} {x:Operand} {k:TK} {sz by_:Nat} {ob g n:Nat} {ty:TypeId} {c0 c1 c2 c3 c4 c5 c6 c7 c8 c9:AC} (ho:o.op=.load T x) (hT:TI C.P T k sz by_) (hx:σ.look x=.o (.ptr ob g 1)) (hm:σ.mem ob=(n,some (.box ty [c0,c1,c2,c3,c4,c5,c6,c7,c8,c9]))) (hn:n=g+1)
  (hk:k.agg=true) (hs:sz=9) (hd:dOk C o.dst=true):LOp C o σ ⟨.a [c1,c2,c3,c4,c5,c6,c7,c8,c9],[]⟩ (fun y=>y == ob):=by
 subst hs;exact lop_load_box (o:=o) ho hx hm hn hk (by simp) hd
abbrev kR (k:Kd):List PVal:=[.v (.string (strOf k.1)),.k .u64 (k.2.1.getD 0 default),.k .u64 (k.2.1.getD 1 default),.k .u64 (k.2.1.getD 2 default),.k .u64 (k.2.1.getD 3 default),.k .u64 (k.2.1.getD 4 default),.k .u64 (k.2.1.getD 5 default),.k .u64 (k.2.1.getD 6 default),.k .u64 (k.2.1.getD 7 default),.sl 4 (k.2.2.map eR) false]
abbrev kL (k:Kd):List AC:=[.p (.v (.string (strOf k.1))),.p (.k .u64 (k.2.1.getD 0 default)),.p (.k .u64 (k.2.1.getD 1 default)),.p (.k .u64 (k.2.1.getD 2 default)),.p (.k .u64 (k.2.1.getD 3 default)),.p (.k .u64 (k.2.1.getD 4 default)),.p (.k .u64 (k.2.1.getD 5 default)),.p (.k .u64 (k.2.1.getD 6 default)),.p (.k .u64 (k.2.1.getD 7 default)),.p (.sl 4 (k.2.2.map eR) false)]
structure KdIn (k:Kd):Prop where
 key:okB k.1
 len:k.1.length≤9223372036854775807
 vec:vecOk k.2.1
 few:k.2.2.length≤1000000000
namespace W9
theorem lopC {C:Ctx} {o:Oper} {σ:St} {e:Eff} {ro:Nat→Bool} (h:LOp C o σ e ro:=by
  first|(apply lop_sge;(focus rfl);(focus exact inferInstance);(focus rfl);(focus rfl);(focus assumption);(focus assumption);(focus rfl))|(apply lop_sgt;(focus rfl);(focus exact inferInstance);(focus rfl);(focus rfl);(focus assumption);(focus assumption);(focus rfl))|(apply lop_len_sb;(focus rfl);(focus exact inferInstance);(focus rfl);(focus rfl))|(apply gLoad;(focus rfl);apply lop_ld_t9;(focus rfl);(focus exact inferInstance);(focus rfl);(focus rfl);(focus rfl);(focus rfl);(focus rfl);(focus rfl))|(apply gLoad;(focus rfl);apply lop_ld_atn;(focus rfl);(focus exact inferInstance);(focus rfl);(focus rfl);(focus decide);(focus rfl);(focus repeat' (first|exact All2.nil|(apply All2.cons;(focus rfl))));(focus rfl))|exact W8.lopC|fail):LOp C o σ e ro:=h
section steps
variable {C:Ctx} {ops:Array Oper} {o:Oper} {rest:List Oper} {K:St→Prop} {σ:St} {e:Eff} {ro:Nat→Bool} {W:List (Nat × Nat)} {i:Nat}
theorem rnC {d:Nat} (hg:Guard ops σ o true:=by first|exact gd_n rfl rfl|exact gd_t rfl rfl rfl rfl|exact gd_t rfl rfl rfl (by assumption)) (hd:o.dst=some d:=by rfl) (h:LOp C o σ e ro:=by exact lopC) (hk:RunN C ops rest K (e.app (some d) σ)):RunN C ops (o::rest) K σ:=rn_any hg hd h hk
theorem rkC {d:Nat} (hg:Guard ops σ o true:=by first|exact gd_n rfl rfl|exact gd_t rfl rfl rfl rfl|exact gd_t rfl rfl rfl (by assumption)) (hd':o.dst=some d:=by rfl) (hd:dOk C o.dst=true:=by rfl) (h:LOp C o σ e ro:=by exact lopC) (hro:∀ x,ro x=true→okObj ops W i x=true:=by first|exact fun _=>ro_none|exact ro_one rfl|exact ro_k1 rfl|exact ro_one (by kernel_rfl)|exact ro_k1 (by kernel_rfl)|exact ro_kIn (by decide)) (hob:∀ p∈e.obj,(i,p.1)∈W:=by first|exact ob_none|exact ob_one (by decide)|decide) (hk:RunK C ops W (i+1) rest K (e.app (some d) σ)):RunK C ops W i (o::rest) K σ:=rk_wr hg hd' hd h hro hob hk
end steps
end W9
open W9
end Go.Proofs.YtkgploeegbmofaaGreat.Wi
