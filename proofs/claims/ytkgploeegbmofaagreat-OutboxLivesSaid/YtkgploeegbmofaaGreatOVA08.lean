/- wire: a reader -/
import Derived.Test.YtkgploeegbmofaaGreatOVA03
import Derived.Test.YtkgploeegbmofaaGreatOVA01
namespace Go.Proofs.YtkgploeegbmofaaGreat.Wi
open Go Go.RowKit Go.Aw
set_option linter.unusedVariables false
set_option linter.unusedSimpArgs false
set_option maxRecDepth 8000
set_option maxHeartbeats 4000000
open W2
abbrev rdM (r:RS):MO:=.box 207 [.p (.b true),.p (.sl 1 (r.1.map bR) false),.p (.i r.2)]
theorem err_o (n:Nat) (r:RS):OCall Tryz.prog 97 [.o (.ptr 1000 n 0)] (memL [(1000,(n+1,some (rdM r)))]) (.p (.i r.2)) (memL [(1000,(n+1,some (rdM r)))]):=by
 refine ocall_of1 Tryz.func97 rfl (fun w0 F S0 M0=>?_)
 as_aux_lemma=>
  repeat' (first|refine jx6 ?_|refine jy0 ?_ ?_|exact spF|refine spQ fun hq hq'=>?_|refine spN fun hn=>?_|fail)
  exact RetO.mk (ot1 rfl rfl finS_p rfl) ⟨.box finL_p,trivial⟩
instance {c g n:Nat} {r:RS}:OC Tryz.prog 97 [.o (.ptr c g 0)] [(c,(n,some (rdM r)))] [] (n=g+1) (.p (.i r.2)) [(c,(n,some (rdM r)))]:=⟨fun h=>by subst h;exact (err_o g r).one c⟩
theorem must_o (n:Nat) (r:RS) (is:Bool):OCall Tryz.prog 133 [.o (.ptr 1000 n 0),.p (.b is)] (memL [(1000,(n+1,some (rdM r)))]) (.tup []) (memL [(1000,(n+1,some (rdM (mustS is r))))]):=by
 refine ocall_of1 Tryz.func133 rfl (fun w0 F S0 M0=>?_)
 by_cases h:r.2=0
 ·have d1:decide (r.2=0)=true:=decide_eq_true h
  cases is with
  | true=>
   rw [show mustS true r=r by unfold mustS;rw [if_neg (by simp)]]
   have d2:(!true)=false:=rfl
   as_aux_lemma=>
    repeat' (first|refine jx6 ?_|refine jy0 ?_ ?_|exact spF|refine spQ fun hq hq'=>?_|refine spN fun hn=>?_|fail)
    exact RetO.mk (res0 rfl rfl) ⟨.box finL_p,trivial⟩
  | false=>
   rw [show mustS false r=(r.1,3) by unfold mustS;rw [if_pos ⟨h,rfl⟩]]
   have d2:(!false)=true:=rfl
   as_aux_lemma=>
    repeat' (first|refine jx6 ?_|refine jy0 ?_ ?_|exact spF|refine spQ fun hq hq'=>?_|refine spN fun hn=>?_|fail)
    exact RetO.mk (res0 rfl rfl) ⟨.box finL_p,trivial⟩
 ·have d1:decide (r.2=0)=false:=decide_eq_false h
  rw [show mustS is r=r by unfold mustS;rw [if_neg fun q=>h q.1]]
  as_aux_lemma=>
   repeat' (first|refine jx6 ?_|refine jy0 ?_ ?_|exact spF|refine spQ fun hq hq'=>?_|refine spN fun hn=>?_|fail)
   exact RetO.mk (res0 rfl rfl) ⟨.box finL_p,trivial⟩
instance {c g n:Nat} {r:RS} {is:Bool}:OC Tryz.prog 133 [.o (.ptr c g 0),.p (.b is)] [(c,(n,some (rdM r)))] [] (n=g+1) (.tup []) [(c,(n,some (rdM (mustS is r))))]:=⟨fun h=>by subst h;exact (must_o g r is).one c⟩
theorem take_o (n:Nat) (r:RS) (k:Nat):OCall Tryz.prog 134 [.o (.ptr 1000 n 0),.p (.i (k:Int))] (memL [(1000,(n+1,some (rdM r)))]) (.p (.sl 1 ((takeS k r).1.map bR) true)) (memL [(1000,(n+1,some (rdM (takeS k r).2)))]):=by
 refine ocall_of1 Tryz.func134 rfl (fun w0 F S0 M0=>?_)
 by_cases h:r.2=0
 ·have d1:decide (r.2≠0)=false:=decide_eq_false fun q=>q h
  by_cases hk:r.1.length < k
  ·have d2:decide ((r.1.length:Int) < (k:Int))=true:=decide_eq_true (by omega)
   rw [show takeS k r=([],(r.1,8)) by unfold takeS;rw [if_neg fun q=>q h,if_pos hk]]
   as_aux_lemma=>
    repeat' (first|refine jx6 ?_|refine jy0 ?_ ?_|exact spF|refine spQ fun hq hq'=>?_|refine spN fun hn=>?_|fail)
    exact RetO.mk (ot1 rfl rfl (.one .nil) rfl) ⟨.box finL_p,trivial⟩
  ·have d2:decide ((r.1.length:Int) < (k:Int))=false:=decide_eq_false (by omega)
   rw [show takeS k r=(r.1.take (k:Int).toNat,(r.1.drop (k:Int).toNat,r.2)) by unfold takeS;rw [if_neg fun q=>q h,if_neg hk,Int.toNat_natCast,h]]
   as_aux_lemma=>
    repeat' (first|refine jx6 ?_|refine jy0 ?_ ?_|exact spF|refine spQ fun hq hq'=>?_|refine spN fun hn=>?_|fail)
    exact RetO.mk (ot1 rfl rfl finS_p rfl) ⟨.box finL_p,trivial⟩
 ·have d1:decide (r.2≠0)=true:=decide_eq_true h
  rw [take_bad h]
  as_aux_lemma=>
   repeat' (first|refine jx6 ?_|refine jy0 ?_ ?_|exact spF|refine spQ fun hq hq'=>?_|refine spN fun hn=>?_|fail)
   exact RetO.mk (ot1 rfl rfl (.one .nil) rfl) ⟨.box finL_p,trivial⟩
instance {c g n:Nat} {r:RS} {k:Nat}:OC Tryz.prog 134 [.o (.ptr c g 0),.p (.i (k:Int))] [(c,(n,some (rdM r)))] [] (n=g+1) (.p (.sl 1 ((takeS k r).1.map bR) true)) [(c,(n,some (rdM (takeS k r).2)))]:=⟨fun h=>by subst h;exact (take_o g r k).one c⟩
instance {c g n:Nat} {r:RS}:OC Tryz.prog 134 [.o (.ptr c g 0),.p (.i 1)] [(c,(n,some (rdM r)))] [] (n=g+1) (.p (.sl 1 ((takeS 1 r).1.map bR) true)) [(c,(n,some (rdM (takeS 1 r).2)))]:=⟨fun h=>by subst h;exact (take_o g r 1).one c⟩
theorem rnum_o (n:Nat) (r:RS) (hb:∀ b∈r.1,b < 256) (hl:r.1.length≤1000000000):OCall Tryz.prog 132 [.o (.ptr 1000 n 0)] (memL [(1000,(n+1,some (rdM r)))]) (.p (.k .u64 ((numS r).1:Int))) (memL [(1000,(n+1,some (rdM (numS r).2)))]):=by
 refine ocall_of1 Tryz.func132 rfl (fun w0 F S0 M0=>?_)
 by_cases h0:(takeS 1 r).1.length=0
 ·have d1:decide (((takeS 1 r).1.length:Int)=0)=true:=decide_eq_true (by omega)
  rw [show numS r=(0,(takeS 1 r).2) by unfold numS;rw [if_pos h0]]
  as_aux_lemma=>
   repeat' (first|refine jx6 ?_|refine jy0 ?_ ?_|exact spF|refine spQ fun hq hq'=>?_|refine spN fun hn=>?_|fail)
   exact RetO.mk (ot1 rfl rfl finS_p rfl) ⟨.box finL_p,trivial⟩
 ·have d1:decide (((takeS 1 r).1.length:Int)=0)=false:=decide_eq_false (by omega)
  have en:numS r=(if (numR2 r).2=0 then valB (numL r).1 else 0,numR2 r):=by unfold numS;rw [if_neg h0]
  rw [en]
  have hL:=numL_len r
  have hB:=numL_byte hb
  have hH:(takeS 1 r).1.getD (0:Int).toNat default < 256:=by
   have:=(take_byte (n:=1) hb).1
   rw [List.getD_eq_getElem?_getD,List.getElem?_eq_getElem (by show 0 < _;omega)]
   exact this _ (List.getElem_mem _)
  by_cases h1:(numL r).1.length=0
  ·have d2:decide (((numL r).1.length:Int)=0)=true:=decide_eq_true (by omega)
   have eR:numR2 r=mustS (true) (numL r).2:=by unfold numR2;rw [if_pos h1]
   rw [eR]
   repeat' (first|refine jx5 ?_|refine jy0 ?_ ?_|exact spF|refine spQ fun hq hq'=>?_|refine spN fun hn=>?_|fail)
   refine aws_loopS [5,7,38,39,40,41,42,43,44,45,46,47] [] (fun (s:Nat × Nat)=>[(38,.p (.i s.1)),(5,.p (.k .u64 (s.2:Int)))]) (fun _=>[]) (fun s=>s.1≤(numL r).1.length∧s.2=valB ((numL r).1.take s.1)) (fun s=>(numL r).1.length - s.1) (0,0) ⟨Nat.zero_le _,rfl⟩ (by exact knA) (by exact knA) ?_
   rintro ⟨i,a⟩ β γ ⟨hi,ha⟩
   dsimp only at hi ha ⊢
   by_cases hil:i < (numL r).1.length
   ·have q0:decide ((i:Int) < ((numL r).1.length:Int))=true:=decide_eq_true (by omega)
    have hilr:i < (takeS ((takeS 1 r).1.getD (0:Int).toNat default) (mustS (decide ((((takeS 1 r).1.getD (0:Int).toNat default:Nat):Int)≤8)) (takeS 1 r).2)).1.length:=hil
    have hc:(numL r).1.getD (i:Int).toNat default < 256:=by
     rw [Int.toNat_natCast,List.getD_eq_getElem?_getD,List.getElem?_eq_getElem hil];exact hB _ (List.getElem_mem _)
    have ht:(numL r).1.take (i+1)=(numL r).1.take i++[(numL r).1.getD (i:Int).toNat default]:=by
     rw [Int.toNat_natCast,List.take_succ_eq_append_getElem hil,List.getD_eq_getElem?_getD,List.getElem?_eq_getElem hil];rfl
    have hv:a * 256+(numL r).1.getD (i:Int).toNat default < md .u64:=by
     have:=valB_fit (l:=(numL r).1.take (i+1)) (by rw [List.length_take];omega) (fun b k=>hB b (List.mem_of_mem_take k))
     rw [ht,valB_snoc,← ha] at this
     exact this
    as_aux_lemma=>
     repeat' (first|refine jx5 ?_|refine jy0 ?_ ?_|exact spF|refine spQ fun hq hq'=>?_|refine spN fun hn=>?_|fail)
     refine ⟨(i+1,a * 2 ^ (8:Int).toNat % md .u64 % md .u64||| (numL r).1.getD (i:Int).toNat default % md .u64 % md .u64),_,by dsimp only;omega,⟨by dsimp only;omega,?_⟩,.refl,by exact frA⟩
     dsimp only
     rw [ht,valB_snoc,← ha]
     exact byte_in hv hc
   ·have q0:decide ((i:Int) < ((numL r).1.length:Int))=false:=decide_eq_false (by omega)
    rw [List.take_of_length_le (by omega)] at ha
    subst ha
    by_cases hz:(mustS (true) (numL r).2).2=0
    ·have d4:decide ((mustS (true) (numL r).2).2≠0)=false:=decide_eq_false fun q=>q hz
     rw [if_pos hz]
     as_aux_lemma=>
      repeat' (first|refine jx5 ?_|refine jy0 ?_ ?_|exact spF|refine spQ fun hq hq'=>?_|refine spN fun hn=>?_|fail)
      exact RetO.mk (ot1 rfl rfl finS_p rfl) ⟨.box finL_p,trivial⟩
    ·have d4:decide ((mustS (true) (numL r).2).2≠0)=true:=decide_eq_true hz
     rw [if_neg hz]
     as_aux_lemma=>
      repeat' (first|refine jx5 ?_|refine jy0 ?_ ?_|exact spF|refine spQ fun hq hq'=>?_|refine spN fun hn=>?_|fail)
      exact RetO.mk (ot1 rfl rfl finS_p rfl) ⟨.box finL_p,trivial⟩
  ·have d2:decide (((numL r).1.length:Int)=0)=false:=decide_eq_false (by omega)
   have h1r:¬ (takeS ((takeS 1 r).1.getD (0:Int).toNat default) (mustS (decide ((((takeS 1 r).1.getD (0:Int).toNat default:Nat):Int)≤8)) (takeS 1 r).2)).1.length=0:=h1
   have eR:numR2 r=mustS (decide (0 < (((numL r).1.getD (0:Int).toNat default:Nat):Int))) (numL r).2:=by unfold numR2;rw [if_neg h1]
   rw [eR]
   repeat' (first|refine jx5 ?_|refine jy0 ?_ ?_|exact spF|refine spQ fun hq hq'=>?_|refine spN fun hn=>?_|fail)
   refine aws_loopS [5,7,38,39,40,41,42,43,44,45,46,47] [] (fun (s:Nat × Nat)=>[(38,.p (.i s.1)),(5,.p (.k .u64 (s.2:Int)))]) (fun _=>[]) (fun s=>s.1≤(numL r).1.length∧s.2=valB ((numL r).1.take s.1)) (fun s=>(numL r).1.length - s.1) (0,0) ⟨Nat.zero_le _,rfl⟩ (by exact knA) (by exact knA) ?_
   rintro ⟨i,a⟩ β γ ⟨hi,ha⟩
   dsimp only at hi ha ⊢
   by_cases hil:i < (numL r).1.length
   ·have q0:decide ((i:Int) < ((numL r).1.length:Int))=true:=decide_eq_true (by omega)
    have hilr:i < (takeS ((takeS 1 r).1.getD (0:Int).toNat default) (mustS (decide ((((takeS 1 r).1.getD (0:Int).toNat default:Nat):Int)≤8)) (takeS 1 r).2)).1.length:=hil
    have hc:(numL r).1.getD (i:Int).toNat default < 256:=by
     rw [Int.toNat_natCast,List.getD_eq_getElem?_getD,List.getElem?_eq_getElem hil];exact hB _ (List.getElem_mem _)
    have ht:(numL r).1.take (i+1)=(numL r).1.take i++[(numL r).1.getD (i:Int).toNat default]:=by
     rw [Int.toNat_natCast,List.take_succ_eq_append_getElem hil,List.getD_eq_getElem?_getD,List.getElem?_eq_getElem hil];rfl
    have hv:a * 256+(numL r).1.getD (i:Int).toNat default < md .u64:=by
     have:=valB_fit (l:=(numL r).1.take (i+1)) (by rw [List.length_take];omega) (fun b k=>hB b (List.mem_of_mem_take k))
     rw [ht,valB_snoc,← ha] at this
     exact this
    as_aux_lemma=>
     repeat' (first|refine jx5 ?_|refine jy0 ?_ ?_|exact spF|refine spQ fun hq hq'=>?_|refine spN fun hn=>?_|fail)
     refine ⟨(i+1,a * 2 ^ (8:Int).toNat % md .u64 % md .u64||| (numL r).1.getD (i:Int).toNat default % md .u64 % md .u64),_,by dsimp only;omega,⟨by dsimp only;omega,?_⟩,.refl,by exact frA⟩
     dsimp only
     rw [ht,valB_snoc,← ha]
     exact byte_in hv hc
   ·have q0:decide ((i:Int) < ((numL r).1.length:Int))=false:=decide_eq_false (by omega)
    rw [List.take_of_length_le (by omega)] at ha
    subst ha
    by_cases hz:(mustS (decide (0 < (((numL r).1.getD (0:Int).toNat default:Nat):Int))) (numL r).2).2=0
    ·have d4:decide ((mustS (decide (0 < (((numL r).1.getD (0:Int).toNat default:Nat):Int))) (numL r).2).2≠0)=false:=decide_eq_false fun q=>q hz
     rw [if_pos hz]
     as_aux_lemma=>
      repeat' (first|refine jx5 ?_|refine jy0 ?_ ?_|exact spF|refine spQ fun hq hq'=>?_|refine spN fun hn=>?_|fail)
      exact RetO.mk (ot1 rfl rfl finS_p rfl) ⟨.box finL_p,trivial⟩
    ·have d4:decide ((mustS (decide (0 < (((numL r).1.getD (0:Int).toNat default:Nat):Int))) (numL r).2).2≠0)=true:=decide_eq_true hz
     rw [if_neg hz]
     as_aux_lemma=>
      repeat' (first|refine jx5 ?_|refine jy0 ?_ ?_|exact spF|refine spQ fun hq hq'=>?_|refine spN fun hn=>?_|fail)
      exact RetO.mk (ot1 rfl rfl finS_p rfl) ⟨.box finL_p,trivial⟩
instance {c g n:Nat} {r:RS}:OC Tryz.prog 132 [.o (.ptr c g 0)] [(c,(n,some (rdM r)))] [] (n=g+1∧(∀ b∈r.1,b < 256)∧r.1.length≤1000000000) (.p (.k .u64 ((numS r).1:Int))) [(c,(n,some (rdM (numS r).2)))]:=⟨fun h=>by obtain ⟨rfl,h1,h2⟩:=h;exact (rnum_o g r h1 h2).one c⟩
end Go.Proofs.YtkgploeegbmofaaGreat.Wi
namespace Go.Proofs.YtkgploeegbmofaaGreat.Wi
open Go Go.RowKit Go.Aw
set_option linter.unusedVariables false
set_option linter.unusedSimpArgs false
set_option maxRecDepth 8000
set_option maxHeartbeats 4000000
theorem lop_max_l {C:Ctx} {o:Oper} {σ:St} {x y:Operand} {T1 T2:TypeId} {k:IntKind} {m n:Int} (ho:o.op=.call ⟨.builtin .max,#[x,y],#[T1,T2]⟩) (hx:σ.look x=.p (.v (.int k m))) (hy:σ.look y=.p (.v (.int k n))) (h:n≤m) (hd:dOk C o.dst=true):LOp C o σ ⟨.p (.v (.int k m)),[]⟩ (fun _=>false):=by
 have:=lop_max ho hx hy hd
 rwa [if_neg (by omega)] at this
namespace W4
theorem lopC {C:Ctx} {o:Oper} {σ:St} {e:Eff} {ro:Nat→Bool} (h:LOp C o σ e ro:=by
  first|(apply lop_max_l;(focus rfl);(focus rfl);(focus rfl);(focus omega);(focus rfl))|(apply lop_osl_eqnil;(focus rfl);(focus exact inferInstance);(focus rfl);(focus exact ⟨_,_,_,rfl,rfl⟩);(focus rfl);(focus rfl))|(apply lop_ap_exo;(focus rfl);(focus exact inferInstance);(focus exact inferInstance);(focus exact inferInstance);(focus rfl);(focus rfl);(focus rfl);(focus rfl);(focus rfl);(focus rfl);(focus first|(simp only [maxLen,List.length_append,List.length_cons,List.length_nil,List.length_take,List.length_drop,List.length_map];omega)|omega);(focus first|(simp only [maxLen,List.length_append,List.length_cons,List.length_nil,List.length_take,List.length_drop,List.length_map];omega)|omega);(focus rfl))|exact W2.lopC|fail):LOp C o σ e ro:=h
section steps
variable {C:Ctx} {ops:Array Oper} {o:Oper} {rest:List Oper} {K:St→Prop} {σ:St} {e:Eff} {ro:Nat→Bool} {W:List (Nat × Nat)} {i:Nat}
theorem rnC {d:Nat} (hg:Guard ops σ o true:=by first|exact gd_n rfl rfl|exact gd_t rfl rfl rfl rfl|exact gd_t rfl rfl rfl (by assumption)) (hd:o.dst=some d:=by rfl) (h:LOp C o σ e ro:=by exact lopC) (hk:RunN C ops rest K (e.app (some d) σ)):RunN C ops (o::rest) K σ:=rn_any hg hd h hk
end steps
end W4
open W4
theorem cloneB_w (l:List Nat) (ex:Bool) (h:l.length≤1000000000):PCall Tryz.prog 131 [.p (.sl 1 (l.map bR) ex)] (.p (.sl 1 (l.map bR) false)):=by
 refine pcall_of Tryz.func131 rfl (fun w0 F S0 M0=>?_)
 as_aux_lemma=>
  repeat' (first|refine jx5 ?_|refine jy0 ?_ ?_|exact spF|refine spQ fun hq hq'=>?_|refine spN fun hn=>?_|fail)
  ·have e:l=[]:=List.eq_nil_of_length_eq_zero (by have:=congrArg List.length hn;rwa [List.length_map,List.length_nil] at this)
   subst e
   exact rt1 rfl rfl (.one .nil) rfl
  ·exact rt1 rfl rfl finS_p rfl
instance cloneB_i {l:List Nat} {ex:Bool}:PC Tryz.prog 131 [.p (.sl 1 (l.map bR) ex)] (l.length≤1000000000) (.p (.sl 1 (l.map bR) false)):=⟨cloneB_w l ex⟩
theorem cloneO_o (n:Nat) (l:List Nat) (h:l.length≤1000000000):OCall Tryz.prog 131 [.o (.osl 1000 n 1 0 l.length)] (memL [(1000,(n+1,some (.buf 5 1 (l.map bR))))]) (.p (.sl 1 (l.map bR) false)) (memL [(1000,(n+1,some (.buf 5 1 (l.map bR))))]):=by
 refine ocall_of1 Tryz.func131 rfl (fun w0 F S0 M0=>?_)
 as_aux_lemma=>
  repeat' (first|refine jx5 ?_|refine jy0 ?_ ?_|exact spF|refine spQ fun hq hq'=>?_|refine spN fun hn=>?_|fail)
  ·have e:l=[]:=List.eq_nil_of_length_eq_zero hn
   subst e
   exact RetO.mk (ot1 rfl rfl (.one .nil) rfl) ⟨.buf,trivial⟩
  ·exact RetO.mk (ot1 rfl rfl finS_p rfl) ⟨.buf,trivial⟩
instance cloneO_i {c g n:Nat} {l:List Nat}:OC Tryz.prog 131 [.o (.osl c g 1 0 l.length)] [(c,(n,some (.buf 5 1 (l.map bR))))] [] (n=g+1∧l.length≤1000000000) (.p (.sl 1 (l.map bR) false)) [(c,(n,some (.buf 5 1 (l.map bR))))]:=⟨fun h=>by obtain ⟨rfl,h⟩:=h;exact (cloneO_o g l h).one c⟩
theorem from_o (l:List Nat) (ex:Bool) (h:l.length≤1000000000):OCall Tryz.prog 91 [.p (.sl 1 (l.map bR) ex)] (fun _=>(0,none)) (.o (.ptr 6 0 0)) (memL [(6,(1,some (rdM (l,0))))]):=by
 refine ocall_ofF 6 Tryz.func91 rfl (fun w0 F S0 M0=>?_)
 as_aux_lemma=>
  repeat' (first|refine jx5 ?_|refine jy0 ?_ ?_|exact spF|refine spQ fun hq hq'=>?_|refine spN fun hn=>?_|fail)
  exact RetO.mk (ot1 rfl rfl (.one (.kptr rfl)) rfl) ⟨.box finL_p,trivial⟩
instance from_i {c k:Nat} {l:List Nat} {ex:Bool}:OC Tryz.prog 91 [.p (.sl 1 (l.map bR) ex)] [] [(c,k)] (l.length≤1000000000) (.o (.ptr c k 0)) [(c,(k+1,some (rdM (l,0))))]:=⟨fun h=>(from_o l ex h).fresh1 c k⟩
theorem bytes_o (n:Nat) (bs:List Nat) (h:bs.length≤1000000000):OCall Tryz.prog 90 [.o (.ptr 1000 n 0)] (memL [(1000,(n+1,some (.abs (wrA bs))))]) (.p (.sl 1 (bs.map bR) false)) (memL [(1000,(n+1,some (.abs (wrA bs))))]):=by
 refine ocall_of1 Tryz.func90 rfl (fun w0 F S0 M0=>?_)
 refine aws_says (says_unpack' (p:=1000) (o:=901) rfl rfl (List.length_map _) rfl (by decide)) ?_
 repeat' (first|refine jx8 ?_|refine jy0 ?_ ?_|exact spF|refine spQ fun hq hq'=>?_|refine spN fun hn=>?_|fail)
 refine aws_says (says_pack (p:=1000) (o:=901) (pre:=[]) (post:=[]) rfl rfl rfl rfl (by rw [List.length_map]) (by decide)) ?_
 as_aux_lemma=>
  repeat' (first|refine jx5 ?_|refine jy0 ?_ ?_|exact spF|refine spQ fun hq hq'=>?_|refine spN fun hn=>?_|fail)
  exact RetO.mk (ot1 rfl rfl finS_p rfl) ⟨.abs,trivial⟩
instance bytes_i {c g n:Nat} {bs:List Nat}:OC Tryz.prog 90 [.o (.ptr c g 0)] [(c,(n,some (.abs (wrA bs))))] [] (n=g+1∧bs.length≤1000000000) (.p (.sl 1 (bs.map bR) false)) [(c,(n,some (.abs (wrA bs))))]:=⟨fun h=>by obtain ⟨rfl,h⟩:=h;exact (bytes_o g bs h).one c⟩
theorem small_o (n:Nat) (r:RS) (most:Int) (hm:most≤9223372036854775807) (hb:∀ b∈r.1,b < 256) (hl:r.1.length≤1000000000):OCall Tryz.prog 92 [.o (.ptr 1000 n 0),.p (.i most)] (memL [(1000,(n+1,some (rdM r)))]) (.p (.i (smallS most r).1)) (memL [(1000,(n+1,some (rdM (smallS most r).2)))]):=by
 refine ocall_of1 Tryz.func92 rfl (fun w0 F S0 M0=>?_)
 have hf:=numS_fit hb
 unfold smallS
 by_cases h0:0≤most
 ·obtain ⟨q,rfl⟩:∃ q:Nat,most=q:=⟨most.toNat,by omega⟩
  have d1:decide (0≤(q:Int))=true:=decide_eq_true h0
  have e:(decide (0≤(q:Int))&&decide (((numS r).1:Int)≤(q:Int)))=decide (((numS r).1:Int)≤((q % md .u64:Nat):Int)):=by
   rw [d1,Bool.true_and,Nat.mod_eq_of_lt (by show q < 18446744073709551616;omega)]
  rw [e]
  by_cases hz:(mustS (decide (((numS r).1:Int)≤((q % md .u64:Nat):Int))) (numS r).2).2=0
  ·have d2:decide ((mustS (decide (((numS r).1:Int)≤((q % md .u64:Nat):Int))) (numS r).2).2≠0)=false:=decide_eq_false fun k=>k hz
   have hle:((numS r).1:Int)≤(q:Int):=by
    have hz':=hz
    unfold mustS at hz'
    by_cases k:((numS r).1:Int)≤((q % md .u64:Nat):Int)
    ·rw [Nat.mod_eq_of_lt (by show q < 18446744073709551616;omega)] at k;exact k
    ·rw [decide_eq_false k] at hz'
     by_cases k2:(numS r).2.2=0
     ·rw [if_pos ⟨k2,rfl⟩] at hz';cases hz'
     ·rw [if_neg (fun q=>k2 q.1)] at hz';exact absurd hz' k2
   rw [if_pos hz]
   as_aux_lemma=>
    repeat' (first|refine jx5 ?_|refine jy0 ?_ ?_|exact spF|refine spQ fun hq hq'=>?_|refine spN fun hn=>?_|fail)
    exact RetO.mk (ot1 rfl rfl finS_p rfl) ⟨.box finL_p,trivial⟩
  ·have d2:decide ((mustS (decide (((numS r).1:Int)≤((q % md .u64:Nat):Int))) (numS r).2).2≠0)=true:=decide_eq_true hz
   rw [if_neg hz]
   as_aux_lemma=>
    repeat' (first|refine jx5 ?_|refine jy0 ?_ ?_|exact spF|refine spQ fun hq hq'=>?_|refine spN fun hn=>?_|fail)
    exact RetO.mk (ot1 rfl rfl finS_p rfl) ⟨.box finL_p,trivial⟩
 ·have d1:decide (0≤most)=false:=decide_eq_false h0
  rw [d1,Bool.false_and]
  by_cases hz:(mustS false (numS r).2).2=0
  ·exfalso
   unfold mustS at hz
   by_cases k2:(numS r).2.2=0
   ·rw [if_pos ⟨k2,rfl⟩] at hz;cases hz
   ·rw [if_neg (fun q=>k2 q.1)] at hz;exact absurd hz k2
  ·have d2:decide ((mustS false (numS r).2).2≠0)=true:=decide_eq_true hz
   rw [if_neg hz]
   as_aux_lemma=>
    repeat' (first|refine jx5 ?_|refine jy0 ?_ ?_|exact spF|refine spQ fun hq hq'=>?_|refine spN fun hn=>?_|fail)
    exact RetO.mk (ot1 rfl rfl finS_p rfl) ⟨.box finL_p,trivial⟩
end Go.Proofs.YtkgploeegbmofaaGreat.Wi
