/- carts: dots as a set -/
import Derived.Test.YtkgploeegbmofaaGreatOVA04
import Derived.Test.YtkgploeegbmofaaGreatOVA05
import Derived.Test.YtkgploeegbmofaaGreatOVA03
import Derived.Test.YtkgploeegbmofaaGreatOVA07
import Derived.Test.YtkgploeegbmofaaGreatOVA02
import Derived.Lib.Overlaps
import Derived.Lib.AppendZerosOnto
import Derived.Laws.Externs
namespace Go.Proofs.YtkgploeegbmofaaGreat.Ca
open Go Go.RowKit Go.Aw Go.Aw.Cart
set_option linter.unusedVariables false
set_option linter.unusedSimpArgs false
set_option maxRecDepth 8000
set_option maxHeartbeats 4000000
namespace G
theorem lop_bst2 {C:Ctx} {o:Oper} {σ:St} {T e:TypeId} {x0:Operand} {sz by_ es be:Nat} {ke:TK} {z:List Value} {p0 p1:PVal} (ho:o.op=.buildSlice T 1 #[(0,x0)]) (hT:TI C.P T (.slice e) sz by_) (he:TI C.P e ke es be) (hz:TZ C.P e z) (h0:σ.look x0=.a [.p p0,.p p1]) (hes:es=2) (hd:dOk C o.dst=true) :
  LOp C o σ ⟨.p (.sl es [[p0,p1]] true),[]⟩ (fun _=>false):=by
 subst hes
 exact lop_buildSlice (ps:=[(0,[p0,p1])]) ho (.cons ⟨rfl,by simp,_,h0,by simp [SV.cells]⟩ .nil) rfl (by omega) (by omega) hd
theorem lopC {C:Ctx} {o:Oper} {σ:St} {e:Eff} {ro:Nat→Bool} (h:LOp C o σ e ro:=by
  first|(apply lop_bst2;(focus rfl);(focus exact inferInstance);(focus exact inferInstance);(focus exact inferInstance);(focus rfl);(focus rfl);(focus rfl))|exact lopY|fail):LOp C o σ e ro:=h
section steps
variable {C:Ctx} {ops:Array Oper} {o:Oper} {rest:List Oper} {K:St→Prop} {σ:St} {e:Eff} {ro:Nat→Bool} {W:List (Nat × Nat)} {i:Nat}
theorem rnC {d:Nat} (hg:Guard ops σ o true:=by first|exact gd_n rfl rfl|exact gd_t rfl rfl rfl rfl|exact gd_t rfl rfl rfl (by assumption)) (hd:o.dst=some d:=by rfl) (h:LOp C o σ e ro:=by exact lopC) (hk:RunN C ops rest K (e.app (some d) σ)):RunN C ops (o::rest) K σ:=rn_any hg hd h hk
end steps
instance {c g n len:Nat} {l:List Dot}:OC Tryz.prog 188 [.o (.osl c g 2 0 len)] [(c,(n,some (.buf 179 2 (l.map dR))))] [] (len=l.length∧n=g+1∧l.length≤1000000000) (.o (.osl c g 2 0 (comp l).length)) [(c,(n,some (.buf 179 2 ((comp l).map dR))))]:=⟨fun h=>by obtain ⟨rfl,rfl,h⟩:=h;exact (compactD_o g l h).one c⟩
def setTo (l:List Dot) (j:Nat):List Dot:=(l.take j).filter dotF
theorem setTo_succ {l:List Dot} {j:Nat} (h:j < l.length):setTo l (j+1)=setTo l j++(if dotF (l.getD j default)=true then [l.getD j default] else []):=by
 have e:l.getD j default=l[j]:=by rw [List.getD_eq_getElem?_getD,List.getElem?_eq_getElem h];rfl
 rw [setTo,setTo,List.take_succ_eq_append_getElem h,List.filter_append,e]
 congr 1
 by_cases hx:dotF l[j]=true
 ·rw [if_pos hx,List.filter_cons_of_pos hx,List.filter_nil]
 ·rw [if_neg hx,List.filter_cons_of_neg hx,List.filter_nil]
theorem setTo_len {l:List Dot} {j:Nat}:(setTo l j).length≤l.length:=by
 unfold setTo
 exact Nat.le_trans (List.length_filter_le _ _) (by rw [List.length_take];omega)
def dotsOf (l:List Dot):List Dot:=(comp (sortD (l.filter dotF))).take 2000
theorem set_w (f:FuncId) (caps:List PVal) (hf:FnT Tryz.prog f) (l:List Dot) (h:l.length≤1000000000) (hI:ICall Tryz.prog f caps (l.map dV)):PCall Tryz.prog 171 [.p (.fnv f caps)] (.p (.sl 2 ((dotsOf l).map dR) false)):=by
 refine pcall_of Tryz.func171 rfl (fun w0 F S0 M0=>?_)
 repeat' (first|refine jx3 ?_|refine jy0 ?_ ?_|exact spF|refine spQ fun hq hq'=>?_|refine spN fun hn=>?_|fail)
 refine aws_says (says_nil_box (p:=3) (o:=900) (ty:=179) (es:=2) rfl rfl (by decide) (by decide)) ?_
 refine aws_block ?_
 refine aws_range (ι:=Option MO × Nat × Nat × List Dot) [4,6,7,8,9,10,11,12] [3,4,900] (fun x=>[(3,(1,some (.box 182 [.osl 900 x.2.2.1 2 0 x.2.2.2.length]))),(4,(x.2.1,x.1)),(900,(x.2.2.1+1,some (.buf 179 2 (x.2.2.2.map dR))))])
  (fun j x=>x.2.2.2=setTo l j∧x.2.1=j∧j≤l.length) (none,0,0,[]) rfl hf hI rfl ?_ rfl rfl (fun i=>rfl) rfl ⟨rfl,rfl,Nat.zero_le _⟩ (by exact knA) ?_ ?_
 ·intro x hx
  simp only [List.mem_map] at hx
  obtain ⟨e,_,rfl⟩:=hx
  exact inferInstance
 ·rintro j x hjx ⟨c5,g,k,m⟩ γ w0 F S0 M0 lp R R' ⟨hm,hg,hj⟩
  simp only at hm hg
  have hjn:j < l.length:=by
   by_cases hlt:j < l.length
   ·exact hlt
   ·rw [List.getElem?_map,List.getElem?_eq_none (by omega)] at hjx;cases hjx
  obtain rfl:x=dV (l.getD j default):=by
   rw [List.getElem?_map,List.getElem?_eq_getElem hjn] at hjx
   have e:=Option.some.inj hjx
   rw [List.getD_eq_getElem?_getD,List.getElem?_eq_getElem hjn,← e];rfl
  have hml:m.length≤1000000000:=by have:=setTo_len (l:=l) (j:=j);rw [hm];omega
  have hst:=setTo_succ hjn
  dsimp only
  subst hg
  generalize hed:l.getD g default=ed at hst ⊢
  repeat' (first|refine jx3 ?_|refine jy0 ?_ ?_|exact spF|refine spQ fun hq hq'=>?_|refine spN fun hn=>?_|fail)
  refine ⟨rfl,rfl,?_⟩
  cases hv:dotF ed with
  | true=>
   rw [if_pos hv] at hst
   repeat' (first|refine jx3 ?_|refine jy0 ?_ ?_|exact spF|refine spQ fun hq hq'=>?_|refine spN fun hn=>?_|fail)
   refine ⟨rfl,(some (.box 179 (dL ed)),g+1,k+1,m++[ed]),_,⟨by dsimp only;rw [hst,hm],rfl,by omega⟩,.refl,Fr'.mk ?_ (by exact knA) (by exact knA)⟩
   repeat' (first|exact Agr.refl|refine Agr.appg rfl rfl ?_|refine Agr.appgn rfl ?_|refine Agr.set rfl ?_|refine Agr.put rfl ?_|refine Agr.put' ?_|refine Agr.fr ?_ (memb_sub rfl) (memb_sub rfl) rfl rfl)
  | false=>
   rw [if_neg (by rw [hv];simp),List.append_nil] at hst
   repeat' (first|refine jx3 ?_|refine jy0 ?_ ?_|exact spF|refine spQ fun hq hq'=>?_|refine spN fun hn=>?_|fail)
   refine ⟨rfl,(some (.box 179 (dL ed)),g+1,k,m),_,⟨by dsimp only;rw [hst,hm],rfl,by omega⟩,.refl,Fr'.mk ?_ (by exact knA) (by exact knA)⟩
   repeat' (first|exact Agr.refl|refine Agr.appg rfl rfl ?_|refine Agr.appgn rfl ?_|refine Agr.set rfl ?_|refine Agr.put rfl ?_|refine Agr.put' ?_|refine Agr.fr ?_ (memb_sub rfl) (memb_sub rfl) rfl rfl)
 ·rintro ⟨c5,g,k,m⟩ γ ⟨hm,hg,hj⟩
  simp only [List.length_map] at hm hg
  subst hg
  have hm':m=l.filter dotF:=by rw [hm,setTo,List.take_length]
  have hml:m.length≤1000000000:=by have:=setTo_len (l:=l) (j:=l.length);rw [hm];omega
  have hsl:(sortD m).length≤1000000000:=by rw [sortD_len];exact hml
  have hsl':=sortD_len m
  have hcl:=comp_len (sortD m)
  rw [show dotsOf l=(comp (sortD m)).take 2000 by rw [hm'];rfl]
  clear hm hm'
  dsimp only
  by_cases hc:2000 < (comp (sortD m)).length
  ·repeat' (first|refine jx3 ?_|refine jy0 ?_ ?_|exact spF|refine spQ fun hq hq'=>?_|refine spN fun hn=>?_|fail)
   exact rt1 rfl rfl (.one (finC_take rfl rfl rfl (by omega) (by congr 1;omega))) rfl
  ·repeat' (first|refine jx3 ?_|refine jy0 ?_ ?_|exact spF|refine spQ fun hq hq'=>?_|refine spN fun hn=>?_|fail)
   exact rt1 rfl rfl (.one (finC_take rfl rfl rfl (by omega) (by rw [List.take_of_length_le (by omega),List.take_of_length_le (by omega)]))) rfl
end G
end Go.Proofs.YtkgploeegbmofaaGreat.Ca
namespace Go.Proofs.YtkgploeegbmofaaGreat.Ca
open Go Go.RowKit Go.Aw Go.Aw.Cart
set_option linter.unusedVariables false
set_option linter.unusedSimpArgs false
set_option maxRecDepth 8000
set_option maxHeartbeats 4000000
abbrev cL (v:List Int) (l:List Ent) (ex:Bool):List AC:=[.p (.k .u64 (v.getD 0 default)),.p (.k .u64 (v.getD 1 default)),.p (.k .u64 (v.getD 2 default)),.p (.k .u64 (v.getD 3 default)),.p (.k .u64 (v.getD 4 default)),.p (.k .u64 (v.getD 5 default)),.p (.k .u64 (v.getD 6 default)),.p (.k .u64 (v.getD 7 default)),.p (.sl 4 (l.map eR) ex)]
abbrev cV (v:List Int) (l:List Ent) (ex:Bool):AV:=.a (cL v l ex)
theorem v8_eq:∀ {v:List Int},v.length=8→v=[v.getD 0 default,v.getD 1 default,v.getD 2 default,v.getD 3 default,v.getD 4 default,v.getD 5 default,v.getD 6 default,v.getD 7 default]
 | [a0,a1,a2,a3,a4,a5,a6,a7],_=>rfl
theorem lk_v8 {σ:St} {x:Operand} {v:List Int} (hv:v.length=8) (h:σ.look x=.a [.p (.k .u64 (v.getD 0 default)),.p (.k .u64 (v.getD 1 default)),.p (.k .u64 (v.getD 2 default)),.p (.k .u64 (v.getD 3 default)),.p (.k .u64 (v.getD 4 default)),.p (.k .u64 (v.getD 5 default)),.p (.k .u64 (v.getD 6 default)),.p (.k .u64 (v.getD 7 default))]):σ.look x=vV v:=by
 rw [h,v8_eq hv];rfl
theorem lopV {C:Ctx} {o:Oper} {σ:St} {e:Eff} {ro:Nat→Bool} (h:LOp C o σ e ro:=by
  first|exact lopY|(apply lop_call2;(focus rfl);(focus exact inferInstance);(focus first|exact lk_v8 (by assumption) rfl|exact lk_v8l rfl);(focus first|exact lk_m1 rfl|exact lk_m2 rfl|exact lk_m3 rfl|exact lk_o rfl|exact lk_a2 rfl|exact lk_a3 rfl|exact lk_a4 rfl|exact lk_a1 rfl|exact lk_a5 rfl|exact lk_a6 rfl|exact lk_a7 rfl|exact lk_a8 rfl|exact lk_a rfl);(focus exact inferInstance);(focus exact inferInstance);(focus first|exact True.intro|assumption|rfl|omega|((repeat' (first|assumption|refine And.intro ?_ ?_|omega|rfl));done)|fail);(focus rfl))|(apply lop_call1;(focus rfl);(focus exact inferInstance);(focus exact lk_cart rfl);(focus exact inferInstance);(focus exact inferInstance);(focus first|exact True.intro|assumption|rfl|omega|((repeat' (first|assumption|refine And.intro ?_ ?_|omega|rfl));done)|fail);(focus rfl))|(apply lop_call2;(focus rfl);(focus exact inferInstance);(focus exact lk_cart rfl);(focus first|exact lk_m1 rfl|exact lk_m2 rfl|exact lk_m3 rfl|exact lk_o rfl|exact lk_a2 rfl|exact lk_a3 rfl|exact lk_a4 rfl|exact lk_a1 rfl|exact lk_a5 rfl|exact lk_a6 rfl|exact lk_a7 rfl|exact lk_a8 rfl|exact lk_a rfl);(focus exact inferInstance);(focus exact inferInstance);(focus first|exact True.intro|assumption|rfl|omega|((repeat' (first|assumption|refine And.intro ?_ ?_|omega|rfl));done)|fail);(focus rfl))|fail):LOp C o σ e ro:=h
/-! dots -/
theorem dOf_w (l:List Dot) (ex:Bool) (h:l.length≤1000000000):PCall Tryz.prog 148 [.p (.sl 2 (l.map dR) ex)] (.p (.sl 2 ((G.dotsOf l).map dR) false)):=by
 refine pcall_of Tryz.func148 rfl (fun w0 F S0 M0=>?_)
 haveI:PC Tryz.prog 171 [.p (.fnv 189 [.bx [.sl 2 (l.map dR) ex] 0])] True (.p (.sl 2 ((G.dotsOf l).map dR) false)):=⟨fun _=>G.set_w _ _ inferInstance l h (iterD_w l ex h)⟩
 repeat' (first|refine jx4 ?_|refine jy0 ?_ ?_|exact spF|refine spQ fun hq hq'=>?_|refine spN fun hn=>?_|fail)
 exact rt1 rfl rfl finS_p rfl
instance {l:List Dot} {ex:Bool}:PC Tryz.prog 148 [.p (.sl 2 (l.map dR) ex)] (l.length≤1000000000) (.p (.sl 2 ((G.dotsOf l).map dR) false)):=⟨dOf_w l ex⟩
theorem vEqV (v w:List Int) (hv:v.length=8) (hw:w.length=8):vEqB [.int .u64 (v.getD 0 default),.int .u64 (v.getD 1 default),.int .u64 (v.getD 2 default),.int .u64 (v.getD 3 default),.int .u64 (v.getD 4 default),.int .u64 (v.getD 5 default),.int .u64 (v.getD 6 default),.int .u64 (v.getD 7 default)] [.int .u64 (w.getD 0 default),.int .u64 (w.getD 1 default),.int .u64 (w.getD 2 default),.int .u64 (w.getD 3 default),.int .u64 (w.getD 4 default),.int .u64 (w.getD 5 default),.int .u64 (w.getD 6 default),.int .u64 (w.getD 7 default)]=decide (v=w):=by
 rw [Bool.eq_iff_iff]
 match v,hv,w,hw with
 | [a0,a1,a2,a3,a4,a5,a6,a7],_,[b0,b1,b2,b3,b4,b5,b6,b7],_=>simp [vEqB,vEq]
def sameF (v w:List Int) (l m:List Ent):Bool:=decide (v=w)&&decide (l=m)
theorem same_w (v w:List Int) (l m:List Ent) (ex ey:Bool) (hv:v.length=8) (hw:w.length=8) (h:l.length≤1000000000):PCall Tryz.prog 81 [cV v l ex,cV w m ey] (.p (.b (sameF v w l m))):=by
 refine pcall_of Tryz.func81 rfl (fun w0 F S0 M0=>?_)
 unfold sameF
 have e:=vEqV v w hv hw
 cases hh:decide (v=w) with
 | true=>
  rw [hh] at e
  repeat' (first|refine jx4 ?_|refine jy0 ?_ ?_|exact spF|refine spQ fun hq hq'=>?_|refine spN fun hn=>?_|fail)
  exact rt1 rfl rfl finS_p rfl
 | false=>
  rw [hh] at e
  repeat' (first|refine jx4 ?_|refine jy0 ?_ ?_|exact spF|refine spQ fun hq hq'=>?_|refine spN fun hn=>?_|fail)
  exact rt1 rfl rfl finS_p rfl
instance {v w:List Int} {l m:List Ent} {ex ey:Bool}:PC Tryz.prog 81 [cV v l ex,cV w m ey] (v.length=8∧w.length=8∧l.length≤1000000000) (.p (.b (sameF v w l m))):=⟨fun h=>same_w v w l m ex ey h.1 h.2.1 h.2.2⟩
theorem lop_ap_pair {C:Ctx} {o:Oper} {σ:St} {T e:TypeId} {x y:Operand} {sz by_ es be:Nat} {ke:TK} {l:List Dot} {z:List Value} {ey:Bool} {ob g n len:Nat} {a b:Int} (ho:o.op=.call ⟨.builtin .append,#[x,y],#[T,T]⟩) (hT:TI C.P T (.slice e) sz by_) (he:TI C.P e ke es be) (hz:TZ C.P e z) (hx:σ.look x=.o (.osl ob g es 0 len)) (hm:σ.mem ob=(n,some (.buf e es (l.map dR)))) (hn:n=g+1) (hlr:len=l.length)
  (hy:σ.look y=.p (.sl es [[.i a,.k .u64 b]] ey)) (hzl:z.length=es) (h63:l.length+1≤maxLen) (hby:(l.length+1) * be≤140737488355328) (hd:dOk C o.dst=true) :
  LOp C o σ ⟨.o (.osl ob n es 0 (l++[(a,b)]).length),[(ob,(n+1,some (.buf e es ((l++[(a,b)]).map dR))))]⟩ (fun q=>q == ob):=lop_ap_o1 (f:=dR) (v:=(a,b)) ho hT he hz hx hm hn hlr hy rfl hzl h63 hby hd
namespace J
theorem lopC {C:Ctx} {o:Oper} {σ:St} {e:Eff} {ro:Nat→Bool} (h:LOp C o σ e ro:=by
  first|(apply G.lop_bst2;(focus rfl);(focus exact inferInstance);(focus exact inferInstance);(focus exact inferInstance);(focus rfl);(focus rfl);(focus rfl))|(apply lop_bst4;(focus rfl);(focus exact inferInstance);(focus exact inferInstance);(focus exact inferInstance);(focus rfl);(focus rfl);(focus rfl))|(apply lop_ap_pair;(focus rfl);(focus exact inferInstance);(focus exact inferInstance);(focus exact inferInstance);(focus rfl);(focus rfl);(focus rfl);(focus rfl);(focus rfl);(focus rfl);(focus first|(simp only [maxLen,List.length_append,List.length_cons,List.length_nil,List.length_take,List.length_drop,List.length_map];omega)|omega);(focus first|(simp only [maxLen,List.length_append,List.length_cons,List.length_nil,List.length_take,List.length_drop,List.length_map];omega)|omega);(focus rfl))|exact lopV|fail):LOp C o σ e ro:=h
section steps
variable {C:Ctx} {ops:Array Oper} {o:Oper} {rest:List Oper} {K:St→Prop} {σ:St} {e:Eff} {ro:Nat→Bool} {W:List (Nat × Nat)} {i:Nat}
theorem rnC {d:Nat} (hg:Guard ops σ o true:=by first|exact gd_n rfl rfl|exact gd_t rfl rfl rfl rfl|exact gd_t rfl rfl rfl (by assumption)) (hd:o.dst=some d:=by rfl) (h:LOp C o σ e ro:=by exact lopC) (hk:RunN C ops rest K (e.app (some d) σ)):RunN C ops (o::rest) K σ:=rn_any hg hd h hk
theorem rkC {d:Nat} (hg:Guard ops σ o true:=by first|exact gd_n rfl rfl|exact gd_t rfl rfl rfl rfl|exact gd_t rfl rfl rfl (by assumption)) (hd':o.dst=some d:=by rfl) (hd:dOk C o.dst=true:=by rfl) (h:LOp C o σ e ro:=by exact lopC) (hro:∀ x,ro x=true→okObj ops W i x=true:=by first|exact fun _=>ro_none|exact ro_one rfl|exact ro_one (by kernel_rfl)|exact ro_kIn (by decide)) (hob:∀ p∈e.obj,(i,p.1)∈W:=by first|exact ob_none|exact ob_one (by decide)|decide) (hk:RunK C ops W (i+1) rest K (e.app (some d) σ)):RunK C ops W i (o::rest) K σ:=rk_wr hg hd' hd h hro hob hk
end steps
end J
open J
def QB (e:Ent):Prop := -9223372036854775808≤e.2.2.2∧e.2.2.2≤9223372036854775807
def liveF (l:List Ent):List Dot:=G.dotsOf (l.map dotE)
theorem live_w (v:List Int) (l:List Ent) (ex:Bool) (h:l.length≤1000000):PCall Tryz.prog 107 [cV v l ex] (.p (.sl 2 ((liveF l).map dR) false)):=by
 refine pcall_of Tryz.func107 rfl (fun w0 F S0 M0=>?_)
 repeat' (first|refine jx5 ?_|refine jy0 ?_ ?_|exact spF|refine spQ fun hq hq'=>?_|refine spN fun hn=>?_|fail)
 refine aws_says (says_nil (t:=3) (o:=901) (ty:=179) (es:=2) rfl rfl (by decide)) ?_
 refine aws_loopS [3,5,9,10,11,12,13,14,15,16,17,18] [901,5] (fun (x:Nat × List Dot × Option MO)=>[(9,.p (.i x.1)),(3,.o (.osl 901 x.1 2 0 x.2.1.length))]) (fun x=>[(901,(x.1+1,some (.buf 179 2 (x.2.1.map dR)))),(5,(x.1,x.2.2))])
  (fun x=>x.1≤l.length∧x.2.1=(l.take x.1).map dotE) (fun x=>l.length - x.1) (0,[],none) ⟨Nat.zero_le _,rfl⟩ (by exact knA) (by exact knA) ?_
 rintro ⟨i,m,c5⟩ β γ ⟨hi,hm⟩
 simp only at hi hm
 have hml:m.length=i:=by rw [hm,List.length_map,List.length_take];omega
 dsimp only
 by_cases hil:i < l.length
 ·have hd:decide ((i:Int) < (l.length:Int))=true:=decide_eq_true (by omega)
  as_aux_lemma=>
   repeat' (first|refine jx5 ?_|refine jy0 ?_ ?_|exact spF|refine spQ fun hq hq'=>?_|refine spN fun hn=>?_|fail)
   refine ⟨(i+1,m++[(_,_)],some (.box 175 (eL (l.getD (i:Int).toNat default)))),_,by dsimp only;omega,⟨by dsimp only;omega,?_⟩,.refl,by exact frA⟩
   dsimp only
   rw [hm,List.take_succ_eq_append_getElem hil,List.map_append,Int.toNat_natCast,List.getD_eq_getElem?_getD,List.getElem?_eq_getElem hil];rfl
 ·have hd:decide ((i:Int) < (l.length:Int))=false:=decide_eq_false (by omega)
  have hm':m=l.map dotE:=by rw [hm,List.take_of_length_le (by omega)]
  have hml':m.length≤1000000000:=by omega
  rw [show liveF l=G.dotsOf m by rw [hm'];rfl]
  repeat' (first|refine jx5 ?_|refine jy0 ?_ ?_|exact spF|refine spQ fun hq hq'=>?_|refine spN fun hn=>?_|fail)
  refine rn_says (says_frz (t:=19) (o:=901) rfl rfl rfl (by simp)) rfl ?_
  as_aux_lemma=>
   repeat' (first|refine jx5 ?_|refine jy0 ?_ ?_|exact spF|refine spQ fun hq hq'=>?_|refine spN fun hn=>?_|fail)
   exact rt1 rfl rfl finS_p rfl
instance {v:List Int} {l:List Ent} {ex:Bool}:PC Tryz.prog 107 [cV v l ex] (l.length≤1000000) (.p (.sl 2 ((liveF l).map dR) false)):=⟨live_w v l ex⟩
end Go.Proofs.YtkgploeegbmofaaGreat.Ca
namespace Go.Proofs.YtkgploeegbmofaaGreat.Ca
open Go Go.RowKit Go.Aw Go.Aw.Cart
set_option linter.unusedVariables false
set_option linter.unusedSimpArgs false
set_option maxRecDepth 8000
set_option maxHeartbeats 4000000
open J
def rowOk (v:List Int) (l:List Ent) (i:Nat):Bool:=entF (l.getD i default)&&hasF v (dotE (l.getD i default))&&(decide (i=0)||decide (ordE (l.getD (i - 1) default) (l.getD i default) < 0))
def okTo (v:List Int) (l:List Ent) (k:Nat):Nat→Bool
 | 0=>true
 | n+1=>rowOk v l k&&okTo v l (k+1) n
def rightF (v:List Int) (l:List Ent):Bool:=decide (l.length≤400)&&(okTo v l 0 l.length&&decide ((liveF l).length=l.length))
theorem right_w (v:List Int) (l:List Ent) (ex:Bool) (hv:v.length=8) (h:l.length≤1000000000):PCall Tryz.prog 66 [cV v l ex] (.p (.b (rightF v l))):=by
 refine pcall_of Tryz.func66 rfl (fun w0 F S0 M0=>?_)
 unfold rightF
 by_cases h4:l.length≤400
 ·have d0:decide (400 < (l.length:Int))=false:=decide_eq_false (by omega)
  rw [decide_eq_true h4,Bool.true_and]
  obtain ⟨A,hA⟩:∃ A,A=okTo v l 0 l.length:=⟨_,rfl⟩
  rw [← hA]
  repeat' (first|refine jx6 ?_|refine jy0 ?_ ?_|exact spF|refine spQ fun hq hq'=>?_|refine spN fun hn=>?_|fail)
  refine aws_loopS [2,3,4,12,13,14,15,16,17,18,19,20,21,22,23,24,25,26,27,28,29,30,31,32,33,34,35,36,37,38,39,40,41,42,43] [4] (fun (x:Nat × Option MO)=>[(12,.p (.i x.1))]) (fun x=>[(4,(x.1,x.2))]) (fun x=>x.1≤l.length∧A=okTo v l x.1 (l.length - x.1)) (fun x=>l.length - x.1) (0,none) ⟨Nat.zero_le _,hA⟩ (by exact knA) (by exact knA) ?_
  rintro ⟨i,c4⟩ β γ ⟨hi,hx⟩
  simp only at hi hx
  dsimp only
  by_cases hil:i < l.length
  ·have hlt:decide ((i:Int) < (l.length:Int))=true:=decide_eq_true (by omega)
   rw [show l.length - i=(l.length - (i+1))+1 by omega,okTo,rowOk] at hx
   have ei:(i:Int).toNat=i:=Int.toNat_natCast i
   have ep:((i:Int) - 1).toNat=i - 1:=by omega
   cases he:entF (l.getD (i:Int).toNat default) with
   | false=>
    have he':(!entF (l.getD (i:Int).toNat default))=true:=by rw [he];rfl
    rw [ei] at he
    rw [he,Bool.false_and,Bool.false_and,Bool.false_and] at hx
    rw [hx]
    as_aux_lemma=>
     repeat' (first|refine jx6 ?_|refine jy0 ?_ ?_|exact spF|refine spQ fun hq hq'=>?_|refine spN fun hn=>?_|fail)
     exact rt1 rfl rfl finS_p rfl
   | true=>
    have he':(!entF (l.getD (i:Int).toNat default))=false:=by rw [he];rfl
    rw [ei] at he
    cases hh:hasF v (dotE (l.getD (i:Int).toNat default)) with
    | false=>
     have hh':(!hasF v (dotE (l.getD (i:Int).toNat default)))=true:=by rw [hh];rfl
     rw [ei] at hh
     rw [hh,Bool.and_false,Bool.false_and,Bool.false_and] at hx
     rw [hx]
     as_aux_lemma=>
      repeat' (first|refine jx6 ?_|refine jy0 ?_ ?_|exact spF|refine spQ fun hq hq'=>?_|refine spN fun hn=>?_|fail)
      exact rt1 rfl rfl finS_p rfl
    | true=>
     have hh':(!hasF v (dotE (l.getD (i:Int).toNat default)))=false:=by rw [hh];rfl
     rw [ei] at hh
     rw [he,hh,Bool.true_and,Bool.true_and] at hx
     by_cases h0:i=0
     ·have d3:decide (0 < (i:Int))=false:=decide_eq_false (by omega)
      rw [decide_eq_true h0,Bool.true_or,Bool.true_and] at hx
      as_aux_lemma=>
       repeat' (first|refine jx6 ?_|refine jy0 ?_ ?_|exact spF|refine spQ fun hq hq'=>?_|refine spN fun hn=>?_|fail)
       exact ⟨(i+1,some (.box 175 (eL (l.getD (i:Int).toNat default)))),_,by dsimp only;omega,⟨by dsimp only;omega,by dsimp only;exact hx⟩,.refl,by exact frA⟩
     ·have d3:decide (0 < (i:Int))=true:=decide_eq_true (by omega)
      rw [decide_eq_false h0,Bool.false_or] at hx
      by_cases ho:ordE (l.getD ((i:Int) - 1).toNat default) (l.getD (i:Int).toNat default) < 0
      ·have d4:decide (0≤ordE (l.getD ((i:Int) - 1).toNat default) (l.getD (i:Int).toNat default))=false:=decide_eq_false (by omega)
       rw [ei,ep] at ho
       rw [decide_eq_true ho,Bool.true_and] at hx
       as_aux_lemma=>
        repeat' (first|refine jx6 ?_|refine jy0 ?_ ?_|exact spF|refine spQ fun hq hq'=>?_|refine spN fun hn=>?_|fail)
        exact ⟨(i+1,some (.box 175 (eL (l.getD (i:Int).toNat default)))),_,by dsimp only;omega,⟨by dsimp only;omega,by dsimp only;exact hx⟩,.refl,by exact frA⟩
      ·have d4:decide (0≤ordE (l.getD ((i:Int) - 1).toNat default) (l.getD (i:Int).toNat default))=true:=decide_eq_true (by omega)
       rw [ei,ep] at ho
       rw [decide_eq_false ho,Bool.false_and] at hx
       rw [hx]
       as_aux_lemma=>
        repeat' (first|refine jx6 ?_|refine jy0 ?_ ?_|exact spF|refine spQ fun hq hq'=>?_|refine spN fun hn=>?_|fail)
        exact rt1 rfl rfl finS_p rfl
  ·have hlt:decide ((i:Int) < (l.length:Int))=false:=decide_eq_false (by omega)
   rw [show l.length - i=0 by omega,okTo] at hx
   rw [hx]
   as_aux_lemma=>
    repeat' (first|refine jx6 ?_|refine jy0 ?_ ?_|exact spF|refine spQ fun hq hq'=>?_|refine spN fun hn=>?_|fail)
    refine rt1 rfl rfl finS_p (rb ?_)
    rw [Bool.true_and]
    exact decide_eq_decide.2 (by omega)
 ·have d0:decide (400 < (l.length:Int))=true:=decide_eq_true (by omega)
  rw [decide_eq_false h4,Bool.false_and]
  as_aux_lemma=>
   repeat' (first|refine jx6 ?_|refine jy0 ?_ ?_|exact spF|refine spQ fun hq hq'=>?_|refine spN fun hn=>?_|fail)
   exact rt1 rfl rfl finS_p rfl
instance {v:List Int} {l:List Ent} {ex:Bool}:PC Tryz.prog 66 [cV v l ex] (v.length=8∧l.length≤1000000000) (.p (.b (rightF v l))):=⟨fun h=>right_w v l ex h.1 h.2⟩
end Go.Proofs.YtkgploeegbmofaaGreat.Ca
namespace Go.Proofs.YtkgploeegbmofaaGreat.Ca
open Go Go.RowKit Go.Aw Go.Aw.Cart Go.Aw.Ord Go.Sort
set_option linter.unusedVariables false
set_option linter.unusedSimpArgs false
theorem ltE_ir (a:Ent):¬ ltE a a:=by unfold ltE;omega
theorem ltE_tr (a b c:Ent):ltE a b→ltE b c→ltE a c:=by unfold ltE;omega
theorem ltE_as (a b:Ent):ltE a b→¬ ltE b a:=by unfold ltE;omega
theorem ltE_nt (a b c:Ent):¬ ltE a b→¬ ltE b c→¬ ltE a c:=by unfold ltE;omega
theorem ltE_tot (a b:Ent) (h:¬ ltE a b) (k:¬ ltE b a):a=b:=totE a b (by rw [ltE_of];exact decide_eq_false h) (by rw [ltE_of];exact decide_eq_false k)
theorem ltD_ir (a:Dot):¬ ltD a a:=by unfold ltD;omega
theorem ltD_tr (a b c:Dot):ltD a b→ltD b c→ltD a c:=by unfold ltD;omega
theorem ltD_as (a b:Dot):ltD a b→¬ ltD b a:=by unfold ltD;omega
theorem ltD_nt (a b c:Dot):¬ ltD a b→¬ ltD b c→¬ ltD a c:=by unfold ltD;omega
theorem ltD_tot (a b:Dot) (h:¬ ltD a b) (k:¬ ltD b a):a=b:=totD a b (by rw [ltD_of];exact decide_eq_false h) (by rw [ltD_of];exact decide_eq_false k)
theorem sortE_perm (l:List Ent):(sortE l).Perm l:=List.mergeSort_perm ..
theorem sortD_perm (l:List Dot):(sortD l).Perm l:=List.mergeSort_perm ..
theorem sortE_up (l:List Ent):upI ltE (sortE l):=by
 have h:=List.pairwise_mergeSort (le:=fun x y=>!(ltOf ordE) y x) (fun a b c h k=>?_) (fun a b=>?_) l
 ·refine List.Pairwise.imp (fun {a b} h=>?_) h
  simpa [ltE_of] using h
 ·simp only [ltE_of,Bool.not_eq_true',decide_eq_false_iff_not] at h k ⊢
  exact ltE_nt _ _ _ k h
 ·simp only [ltE_of,Bool.or_eq_true,Bool.not_eq_true',decide_eq_false_iff_not]
  by_cases k:ltE b a
  ·exact .inr (ltE_as _ _ k)
  ·exact .inl k
theorem sortD_up (l:List Dot):upI ltD (sortD l):=by
 have h:=List.pairwise_mergeSort (le:=fun x y=>!(ltOf cmpD) y x) (fun a b c h k=>?_) (fun a b=>?_) l
 ·refine List.Pairwise.imp (fun {a b} h=>?_) h
  simpa [ltD_of] using h
 ·simp only [ltD_of,Bool.not_eq_true',decide_eq_false_iff_not] at h k ⊢
  exact ltD_nt _ _ _ k h
 ·simp only [ltD_of,Bool.or_eq_true,Bool.not_eq_true',decide_eq_false_iff_not]
  by_cases k:ltD b a
  ·exact .inr (ltD_as _ _ k)
  ·exact .inl k
theorem sortE_mem {l:List Ent} {e:Ent}:e∈sortE l↔e∈l:=(sortE_perm l).mem_iff
theorem take_get' {α:Type} [Inhabited α] {l:List α} {i:Nat} (h:i < l.length):l.take (i+1)=l.take i++[l.getD i default]:=by
 rw [List.getD_eq_getElem?_getD,List.getElem?_eq_getElem h];exact List.take_succ_eq_append_getElem h
def setF (l:List Dot):List Dot:=comp (sortD (l.filter dotF))
theorem setF_up (l:List Dot):(setF l).Pairwise ltD:=comp_up (fun x y h=>by
 by_cases k:ltD x y
 ·exact .inr k
 ·exact .inl (ltD_tot _ _ k h)) ltD_tr (sortD_up _)
theorem setF_len (l:List Dot):(setF l).length≤l.length:=Nat.le_trans (comp_len _) (by rw [sortD_len];exact List.length_filter_le _ _)
theorem dotsOf_is (l:List Dot):G.dotsOf l=(setF l).take 2000:=rfl
theorem setF_full {l:List Dot} (hd:∀ d∈l,dotF d=true):(setF l).length=l.length↔l.Nodup:=by
 have e:l.filter dotF=l:=List.filter_eq_self.2 hd
 rw [setF,e]
 constructor
 ·intro h
  have h1:=comp_sub.eq_of_length (l₁:=comp (sortD l)) (by rw [h,sortD_len])
  have h2:=setF_up l
  rw [setF,e,h1] at h2
  refine (sortD_perm l).nodup_iff.1 (h2.imp fun {a b} k q=>?_)
  subst q;exact ltD_ir _ k
 ·intro h
  rw [comp_id ((sortD_perm l).nodup_iff.2 h),sortD_len]
/-! which carts may be -/
theorem okTo_iff {v:List Int} {l:List Ent}:∀ (n k:Nat),okTo v l k n=true↔∀ i,k≤i→i < k+n→rowOk v l i=true
 | 0,k=>⟨fun _ i h1 h2=>by omega,fun _=>rfl⟩
 | n+1,k=>by
  rw [okTo,Bool.and_eq_true,okTo_iff n (k+1)]
  refine ⟨fun h i h1 h2=>?_,fun h=>⟨h k (by omega) (by omega),fun i h1 h2=>h i (by omega) (by omega)⟩⟩
  by_cases e:i=k
  ·rw [e];exact h.1
  ·exact h.2 i (by omega) (by omega)
theorem has_dot {v:List Int} {d:Dot} (h:hasF v d=true):dotF d=true:=by
 unfold hasF at h;simp only [Bool.and_eq_true] at h;exact h.1
theorem row_ent {v:List Int} {l:List Ent} {i:Nat} (h:rowOk v l i=true):entF (l.getD i default)=true∧hasF v (dotE (l.getD i default))=true∧(0 < i→ltE (l.getD (i - 1) default) (l.getD i default)):=by
 unfold rowOk at h
 simp only [Bool.and_eq_true,Bool.or_eq_true,decide_eq_true_eq] at h
 exact ⟨h.1.1,h.1.2,fun k=>ordE_lt.1 (h.2.resolve_left (by omega))⟩
theorem getD_mem {α:Type} [Inhabited α] {l:List α} {x:α} (h:x∈l):∃ i,i < l.length∧l.getD i default=x:=by
 obtain ⟨i,hi,e⟩:=List.getElem_of_mem h
 exact ⟨i,hi,by rw [List.getD_eq_getElem?_getD,List.getElem?_eq_getElem hi];exact e⟩
theorem live_set (l:List Ent) (h:l.length≤2000):liveF l=setF (l.map dotE):=by
 rw [liveF,dotsOf_is,List.take_of_length_le]
 exact Nat.le_trans (setF_len _) (by rw [List.length_map];exact h)
theorem rightF_iff {v:List Int} {l:List Ent}:rightF v l=true↔l.length≤400∧(∀ i,i < l.length→rowOk v l i=true)∧(l.map dotE).Nodup:=by
 unfold rightF
 simp only [Bool.and_eq_true,decide_eq_true_eq,okTo_iff]
 refine and_congr_right fun h4=>?_
 constructor
 ·rintro ⟨h1,h2⟩
  have h1':∀ i,i < l.length→rowOk v l i=true:=fun i hi=>h1 i (Nat.zero_le _) (by omega)
  refine ⟨h1',(setF_full fun d hd=>?_).1 (by rw [← live_set l (by omega),h2,List.length_map])⟩
  obtain ⟨e,he,rfl⟩:=List.mem_map.1 hd
  obtain ⟨i,hi,rfl⟩:=getD_mem he
  exact has_dot (row_ent (h1' i hi)).2.1
 ·rintro ⟨h1,h2⟩
  refine ⟨fun i _ hi=>h1 i (by omega),?_⟩
  rw [live_set l (by omega),(setF_full fun d hd=>?_).2 h2,List.length_map]
  obtain ⟨e,he,rfl⟩:=List.mem_map.1 hd
  obtain ⟨i,hi,rfl⟩:=getD_mem he
  exact has_dot (row_ent (h1 i hi)).2.1
/-! values -/
end Go.Proofs.YtkgploeegbmofaaGreat.Ca
namespace Go.Proofs.YtkgploeegbmofaaGreat.Ca
open Go Go.RowKit Go.Aw Go.Aw.Cart Go.Aw.Ord Go.Sort
set_option linter.unusedVariables false
set_option linter.unusedSimpArgs false
theorem getD_at {α:Type} [Inhabited α] {l:List α} {i:Nat} (h:i < l.length):l.getD i default=l[i]:=by
 rw [List.getD_eq_getElem?_getD,List.getElem?_eq_getElem h];rfl
theorem adj_up {l:List Ent} (h:∀ i,0 < i→i < l.length→ltE (l.getD (i - 1) default) (l.getD i default)):l.Pairwise ltE:=by
 have key:∀ j,j < l.length→∀ i,i < j→ltE (l.getD i default) (l.getD j default):=by
  intro j
  induction j with
  | zero=>intro _ i hi;exact absurd hi (Nat.not_lt_zero _)
  | succ j ih=>
   intro hj i hi
   have h1:=h (j+1) (Nat.succ_pos _) hj
   rw [Nat.add_sub_cancel] at h1
   by_cases e:i=j
   ·rw [e];exact h1
   ·exact ltE_tr _ _ _ (ih (by omega) i (by omega)) h1
 refine List.pairwise_iff_getElem.2 fun i j hi hj hij=>?_
 have:=key j hj i hij
 rwa [getD_at hi,getD_at hj] at this
theorem up_adj {l:List Ent} (h:l.Pairwise ltE) {i:Nat} (h0:0 < i) (hi:i < l.length):ltE (l.getD (i - 1) default) (l.getD i default):=by
 have:=List.pairwise_iff_getElem.1 h (i - 1) i (by omega) hi (by omega)
 rwa [getD_at hi,getD_at (show i - 1 < l.length by omega)]
theorem nodup_map {α β:Type} {f:α→β}:∀ {l:List α},l.Nodup→((l.map f).Nodup↔∀ x∈l,∀ y∈l,f x=f y→x=y)
 | [],_=>by simp
 | a::l,h=>by
  obtain ⟨h1,h2⟩:=List.nodup_cons.1 h
  rw [List.map_cons,List.nodup_cons,nodup_map h2]
  constructor
  ·rintro ⟨k1,k2⟩ x hx y hy e
   rcases List.mem_cons.1 hx with q|q<;>rcases List.mem_cons.1 hy with r|r
   ·rw [q,r]
   ·exact absurd (List.mem_map.2 ⟨y,r,by rw [← e,q]⟩) k1
   ·exact absurd (List.mem_map.2 ⟨x,q,by rw [e,r]⟩) k1
   ·exact k2 x q y r e
  ·intro k
   refine ⟨fun q=>?_,fun x hx y hy=>k x (List.mem_cons_of_mem _ hx) y (List.mem_cons_of_mem _ hy)⟩
   obtain ⟨y,hy,e⟩:=List.mem_map.1 q
   rw [k y (List.mem_cons_of_mem _ hy) a List.mem_cons_self e] at hy
   exact h1 hy
theorem up_nodup {l:List Ent} (h:l.Pairwise ltE):l.Nodup:=h.imp fun {a b} k e=>by subst e;exact ltE_ir _ k
structure Ok (v:List Int) (l:List Ent):Prop where
 few:l.length≤400
 up:l.Pairwise ltE
 ent:∀ e∈l,entF e=true
 has:∀ e∈l,hasF v (dotE e)=true
 one:∀ e∈l,∀ f∈l,dotE e=dotE f→e=f
theorem ok_iff {v:List Int} {l:List Ent}:rightF v l=true↔Ok v l:=by
 rw [rightF_iff]
 constructor
 ·rintro ⟨h1,h2,h3⟩
  have hu:l.Pairwise ltE:=adj_up fun i h0 hi=>(row_ent (h2 i hi)).2.2 h0
  refine ⟨h1,hu,fun e he=>?_,fun e he=>?_,(nodup_map (up_nodup hu)).1 h3⟩
  ·obtain ⟨i,hi,rfl⟩:=getD_mem he;exact (row_ent (h2 i hi)).1
  ·obtain ⟨i,hi,rfl⟩:=getD_mem he;exact (row_ent (h2 i hi)).2.1
 ·intro h
  refine ⟨h.few,fun i hi=>?_,(nodup_map (up_nodup h.up)).2 h.one⟩
  have hm:l.getD i default∈l:=by rw [getD_at hi];exact List.getElem_mem _
  unfold rowOk
  simp only [Bool.and_eq_true,Bool.or_eq_true,decide_eq_true_eq]
  refine ⟨⟨h.ent _ hm,h.has _ hm⟩,?_⟩
  by_cases h0:i=0
  ·exact .inl h0
  ·exact .inr (ordE_lt.2 (up_adj h.up (by omega) hi))
theorem Ok.upI {v:List Int} {l:List Ent} (h:Ok v l):upI ltE l:=h.up.imp fun {a b} k=>ltE_as _ _ k
theorem sortE_sup {l:List Ent} (h:l.Nodup):(sortE l).Pairwise ltE:=by
 have h1:(sortE l).Pairwise fun a b=>a≠b:=(sortE_perm l).nodup_iff.2 h
 refine List.Pairwise.imp (fun {a b} (k:¬ ltE b a∧a≠b)=>?_) ((sortE_up l).and h1)
 by_cases q:ltE a b
 ·exact q
 ·exact absurd (ltE_tot _ _ q k.1) k.2
/-! joins -/
abbrev Crt:=List Int × List Ent
def staysF (a b:Crt) (both:Bool):List Ent:=a.2.filter fun e=>(both&&decide (e∈b.2))||!hasF b.1 (dotE e)
def clashF (a b:Crt):Bool:=a.2.any fun e=>b.2.any fun f=>decide (e≠f)&&decide (dotE e=dotE f)
def maxV (a b:List Int):List Int:=List.zipWith (fun x y=>if x < y then y else x) a b
def zeroV:List Int:=[0,0,0,0,0,0,0,0]
def bothF (a b:Crt):List Ent:=staysF a b true++staysF b a false
def twoF (a b:Crt):Crt × Int:=
 if rightF a.1 a.2=false∨rightF b.1 b.2=false then ((zeroV,[]),3) else
 if clashF a b=true then ((zeroV,[]),14) else
 if 400 < (bothF a b).length then ((zeroV,[]),5) else
 ((maxV a.1 b.1,sortE (bothF a b)),0)
theorem both_mem {a b:Crt} {e:Ent}:e∈bothF a b↔(e∈a.2∧(e∈b.2∨hasF b.1 (dotE e)=false))∨(e∈b.2∧hasF a.1 (dotE e)=false):=by
 unfold bothF staysF
 simp [List.mem_append,List.mem_filter]
theorem clash_of {a b:Crt} (h:∀ e∈a.2,∀ f∈b.2,dotE e=dotE f→e=f):clashF a b=false:=by
 unfold clashF
 rw [List.any_eq_false]
 intro e he
 rw [Bool.not_eq_true,List.any_eq_false]
 intro f hf
 simp only [Bool.not_eq_true,Bool.and_eq_false_iff,decide_eq_false_iff_not]
 by_cases k:dotE e=dotE f
 ·exact .inl fun q=>q (h e he f hf k)
 ·exact .inr k
theorem maxV_len {a b:List Int} (ha:a.length=8) (hb:b.length=8):(maxV a b).length=8:=by simp [maxV,ha,hb]
theorem maxV_get {a b:List Int} (ha:a.length=8) (hb:b.length=8) {i:Nat} (hi:i < 8):(maxV a b).getD i default=if a.getD i default < b.getD i default then b.getD i default else a.getD i default:=by
 rw [getD_at (by rw [maxV_len ha hb];exact hi),getD_at (by omega),getD_at (by omega)]
 simp [maxV]
theorem getF_max {a b:List Int} (ha:a.length=8) (hb:b.length=8) (n:Int):getF (maxV a b) n=if getF a n < getF b n then getF b n else getF a n:=by
 unfold getF
 by_cases h:1≤n∧n≤8
 ·rw [if_pos h,if_pos h,if_pos h,maxV_get ha hb (by omega)]
 ·rw [if_neg h,if_neg h,if_neg h];rfl
theorem has_max {a b:List Int} (ha:a.length=8) (hb:b.length=8) (d:Dot):hasF (maxV a b) d=(hasF a d||hasF b d):=by
 unfold hasF
 rw [getF_max ha hb]
 cases dotF d with
 | false=>rfl
 | true=>
  simp only [Bool.true_and]
  rw [Bool.eq_iff_iff,Bool.or_eq_true,decide_eq_true_eq,decide_eq_true_eq,decide_eq_true_eq]
  split<;>omega
structure Two (a b:Crt):Prop where
 la:a.1.length=8
 lb:b.1.length=8
 oa:Ok a.1 a.2
 ob:Ok b.1 b.2
 nc:∀ e∈a.2,∀ f∈b.2,dotE e=dotE f→e=f
 few:(bothF a b).length≤400
theorem bothF_nodup {a b:Crt} (oa:Ok a.1 a.2) (ob:Ok b.1 b.2):(bothF a b).Nodup:=by
 unfold bothF
 refine List.nodup_append.2 ⟨(up_nodup oa.up).sublist List.filter_sublist,(up_nodup ob.up).sublist List.filter_sublist,fun x hx y hy e=>?_⟩
 subst e
 unfold staysF at hx hy
 have h1:=(List.mem_filter.1 hx).1
 have h2:=(List.mem_filter.1 hy).2
 rw [Bool.false_and,Bool.false_or,oa.has x h1] at h2
 exact absurd h2 (by simp)
theorem Two.is {a b:Crt} (h:Two a b):twoF a b=((maxV a.1 b.1,sortE (bothF a b)),0):=by
 unfold twoF
 rw [ok_iff.2 h.oa,ok_iff.2 h.ob,if_neg (by simp),if_neg (by rw [clash_of h.nc];simp),if_neg (by have:=h.few;omega)]
theorem Two.mem {a b:Crt} (h:Two a b) {e:Ent}:e∈(twoF a b).1.2↔(e∈a.2∧(e∈b.2∨hasF b.1 (dotE e)=false))∨(e∈b.2∧hasF a.1 (dotE e)=false):=by
 rw [h.is,sortE_mem,both_mem]
theorem Two.vec {a b:Crt} (h:Two a b):(twoF a b).1.1=maxV a.1 b.1:=by rw [h.is]
theorem Two.len {a b:Crt} (h:Two a b):(twoF a b).1.1.length=8:=by rw [h.vec];exact maxV_len h.la h.lb
theorem Two.sub {a b:Crt} (h:Two a b) {e:Ent} (he:e∈(twoF a b).1.2):e∈a.2∨e∈b.2:=by
 rcases h.mem.1 he with k|k
 ·exact .inl k.1
 ·exact .inr k.1
theorem Two.ok {a b:Crt} (h:Two a b):Ok (twoF a b).1.1 (twoF a b).1.2:=by
 have hs:=@Two.sub a b h
 have hv:=h.vec
 refine ⟨?_,?_,fun e he=>?_,fun e he=>?_,fun e he f hf hd=>?_⟩
 ·rw [h.is];show (sortE _).length≤400;rw [sortE_len];exact h.few
 ·rw [h.is];exact sortE_sup (bothF_nodup h.oa h.ob)
 ·exact (hs he).elim (h.oa.ent e) (h.ob.ent e)
 ·rw [hv,has_max h.la h.lb,Bool.or_eq_true]
  exact (hs he).elim (fun k=>.inl (h.oa.has e k)) (fun k=>.inr (h.ob.has e k))
 ·rcases hs he with k|k<;>rcases hs hf with q|q
  ·exact h.oa.one e k f q hd
  ·exact h.nc e k f q hd
  ·exact (h.nc f q e k hd.symm).symm
  ·exact h.ob.one e k f q hd
end Go.Proofs.YtkgploeegbmofaaGreat.Ca
namespace Go.Proofs.YtkgploeegbmofaaGreat.Ca
open Go Go.RowKit Go.Aw Go.Aw.Cart Go.Aw.Ord Go.Sort
set_option linter.unusedVariables false
set_option linter.unusedSimpArgs false
/-! the items, and their lines -/
/-! each entry counts for one item -/
/-! the order does not matter -/
end Go.Proofs.YtkgploeegbmofaaGreat.Ca
namespace Go.Proofs.YtkgploeegbmofaaGreat.Ca
open Go Go.RowKit Go.Aw Go.Aw.Cart Go.Aw.Ord Go.Sort
set_option linter.unusedVariables false
set_option linter.unusedSimpArgs false
set_option maxRecDepth 8000
set_option maxHeartbeats 4000000
def aV:List Int:=[2,3,0,0,0,0,0,0]
theorem great_w (v:List Int) (l:List Ent) (ex:Bool):PCall Tryz.prog 60 [cV v l ex] (.p (.b (decide (60 < (l.length:Int))))):=by
 refine pcall_of Tryz.func60 rfl (fun w0 F S0 M0=>?_)
 repeat' (first|refine jx4 ?_|refine jy0 ?_ ?_|exact spF|refine spQ fun hq hq'=>?_|refine spN fun hn=>?_|fail)
 exact rt1 rfl rfl finS_p rfl
instance {v:List Int} {l:List Ent} {ex:Bool}:PC Tryz.prog 60 [cV v l ex] True (.p (.b (decide (60 < (l.length:Int))))):=⟨fun _=>great_w v l ex⟩
theorem lop_ap_ent {C:Ctx} {o:Oper} {σ:St} {T e:TypeId} {x y:Operand} {sz by_ es be:Nat} {ke:TK} {l:List Ent} {z:List Value} {ey:Bool} {ob g n len:Nat} {a b c d:Int} (ho:o.op=.call ⟨.builtin .append,#[x,y],#[T,T]⟩) (hT:TI C.P T (.slice e) sz by_) (he:TI C.P e ke es be) (hz:TZ C.P e z) (hx:σ.look x=.o (.osl ob g es 0 len)) (hm:σ.mem ob=(n,some (.buf e es (l.map eR)))) (hn:n=g+1) (hlr:len=l.length)
  (hy:σ.look y=.p (.sl es [[.i a,.i b,.k .u64 c,.i d]] ey)) (hzl:z.length=es) (h63:l.length+1≤maxLen) (hby:(l.length+1) * be≤140737488355328) (hd:dOk C o.dst=true) :
  LOp C o σ ⟨.o (.osl ob n es 0 (l++[(a,b,c,d)]).length),[(ob,(n+1,some (.buf e es ((l++[(a,b,c,d)]).map eR))))]⟩ (fun q=>q == ob):=lop_ap_o1 (f:=eR) (v:=(a,b,c,d)) ho hT he hz hx hm hn hlr hy rfl hzl h63 hby hd
namespace A
end A
open A
end Go.Proofs.YtkgploeegbmofaaGreat.Ca
namespace Go.Proofs.YtkgploeegbmofaaGreat.Ca
open Go Go.RowKit Go.Aw Go.Aw.Cart
set_option linter.unusedVariables false
set_option linter.unusedSimpArgs false
theorem i64_of {n:Int} (h:IntKind.i64.min≤n∧n≤IntKind.i64.max) : -9223372036854775808≤n∧n≤9223372036854775807:=by
 simp only [IntKind.min,IntKind.max,IntKind.signed,IntKind.bits] at h
 simp at h;omega
theorem u64_of {n:Int} (h:IntKind.u64.min≤n∧n≤IntKind.u64.max):0≤n∧n < 18446744073709551616:=by
 simp only [IntKind.min,IntKind.max,IntKind.signed,IntKind.bits] at h
 simp at h;omega
theorem rd_int:Reads Tryz.prog 3 Int (fun n=>[PVal.k .i64 n]) (fun n => -9223372036854775808≤n∧n≤9223372036854775807):=(reads_int inferInstance).imp' id (fun _ _=>rfl) (fun _ h=>i64_of h)
theorem rd_u64:Reads Tryz.prog 116 Int (fun n=>[PVal.k .u64 n]) (fun n=>0≤n∧n < 18446744073709551616):=(reads_int inferInstance).imp' id (fun _ _=>rfl) (fun _ h=>u64_of h)
def vRow (v:List Int):List PVal:=v.map fun n=>PVal.k .u64 n
theorem rd_vec:Reads Tryz.prog 118 (List Int) vRow (fun v=>v.length=8∧∀ n∈v,0≤n∧n < 18446744073709551616):=
 (reads_array (inferInstance:TI Tryz.prog 118 _ _ _) (inferInstance:TI Tryz.prog 116 _ _ _) rfl rd_u64).imp' id (fun l h=>by
  clear h
  unfold vRow
  show List.map _ l=_
  induction l with
  | nil=>rfl
  | cons b l ih=>simp [ih]) (fun l h=>h)
def EB (e:Ent):Prop:=(-9223372036854775808≤e.1∧e.1≤9223372036854775807)∧(-9223372036854775808≤e.2.1∧e.2.1≤9223372036854775807)∧(0≤e.2.2.1∧e.2.2.1 < 18446744073709551616)∧(-9223372036854775808≤e.2.2.2∧e.2.2.2≤9223372036854775807)
theorem rd_ent:Reads Tryz.prog 175 Ent (fun e=>eR e) EB:=
 (reads_struct (inferInstance:TI Tryz.prog 175 _ _ _)
  (readsFs_cons (inferInstance:TI Tryz.prog 3 _ _ _) rd_int (readsFs_cons (inferInstance:TI Tryz.prog 3 _ _ _) rd_int (readsFs_cons (inferInstance:TI Tryz.prog 116 _ _ _) rd_u64 (readsFs_cons (inferInstance:TI Tryz.prog 3 _ _ _) rd_int (readsFs_nil rfl)))))).imp
  (fun x=>(x.1,x.2.1,x.2.2.1,x.2.2.2.1)) (fun x=>rfl) (fun x h=>⟨h.1,h.2.1,h.2.2.1,h.2.2.2.1⟩)
theorem rd_ents:Reads Tryz.prog 119 (List Ent) (fun l=>[.sl 4 (l.map fun e=>eR e) false]) (fun l=>l.length≤maxLen∧∀ e∈l,EB e):=
 reads_slice inferInstance inferInstance (by decide) rd_ent
structure CIn (x:Crt):Prop where
 v8:x.1.length=8
 vb:∀ n∈x.1,0≤n∧n < 18446744073709551616
 len:x.2.length≤maxLen
 eb:∀ e∈x.2,EB e
def cRow (x:Crt):List PVal:=vRow x.1++[.sl 4 (x.2.map fun e=>eR e) false]
theorem rd_cart:Reads Tryz.prog 121 Crt cRow CIn:=
 (reads_struct (inferInstance:TI Tryz.prog 121 _ _ _)
  (readsFs_cons (inferInstance:TI Tryz.prog 118 _ _ _) rd_vec (readsFs_cons (inferInstance:TI Tryz.prog 119 _ _ _) rd_ents (readsFs_nil rfl)))).imp
  (fun x=>(x.1,x.2.1)) (fun x=>by simp [cRow]) (fun x h=>⟨h.1.1,h.1.2,h.2.1.1,h.2.1.2⟩)
theorem CIn.qb {x:Crt} (h:CIn x):∀ e∈x.2,QB e:=fun e he=>(h.eb e he).2.2.2
end Go.Proofs.YtkgploeegbmofaaGreat.Ca
namespace Go.Proofs.YtkgploeegbmofaaGreat.Wi
open Go Go.RowKit Go.Aw Go.Aw.Cart Go.Proofs.YtkgploeegbmofaaGreat.Ca
set_option linter.unusedVariables false
set_option linter.unusedSimpArgs false
structure Par {α:Type} (P:RS→α × RS):Prop where
 bad:∀ r,r.2≠0→(P r).2=r
 ext:∀ l y rest q,P (l,0)=(y,(rest,0))→P (l++q,0)=(y,(rest++q,0))
 suf:∀ r,(P r).2.1 <:+ r.1
theorem Par.byte {α:Type} {P:RS→α × RS} (h:Par P) {r:RS} (hb:∀ b∈r.1,b < 256):∀ b∈(P r).2.1,b < 256:=fun b k=>hb b ((h.suf r).subset k)
theorem Par.len {α:Type} {P:RS→α × RS} (h:Par P) (r:RS):(P r).2.1.length≤r.1.length:=(h.suf r).length_le
def bindS {α β:Type} (P:RS→α × RS) (Q:α→RS→β × RS) (r:RS):β × RS:=Q (P r).1 (P r).2
def pureS {α:Type} (a:α) (r:RS):α × RS:=(a,r)
def mustU (b:Bool) (r:RS):Unit × RS:=((),mustS b r)
def okS {α:Type} (a z:α) (r:RS):α × RS:=(if r.2=0 then a else z,r)
theorem par_bind {α β:Type} {P:RS→α × RS} {Q:α→RS→β × RS} (hP:Par P) (hQ:∀ a,Par (Q a)):Par (bindS P Q) where
 bad:=fun r h=>by
  have h1:=hP.bad r h
  show (Q (P r).1 (P r).2).2=r
  rw [h1]
  exact (hQ _).bad r h
 ext:=fun l y rest q h=>by
  have h0:Q (P (l,0)).1 (P (l,0)).2=(y,(rest,0)):=h
  obtain ⟨a,m,e⟩:∃ a m,P (l,0)=(a,(m,0)):=by
   by_cases he:(P (l,0)).2.2=0
   ·exact ⟨(P (l,0)).1,(P (l,0)).2.1,Prod.ext rfl (Prod.ext rfl he)⟩
   ·have:=(hQ (P (l,0)).1).bad _ he
    rw [h0] at this
    exact absurd (by rw [← this]) he
  rw [e] at h0
  show Q (P (l++q,0)).1 (P (l++q,0)).2=_
  rw [hP.ext l a m q e]
  exact (hQ a).ext m y rest q h0
 suf:=fun r=>((hQ (P r).1).suf (P r).2).trans (hP.suf r)
theorem par_pure {α:Type} (a:α):Par (pureS a) where
 bad:=fun r h=>rfl
 ext:=fun l y rest q h=>by
  unfold pureS at h ⊢
  obtain ⟨h1,h⟩:=Prod.mk.inj h
  obtain ⟨h2 , -⟩:=Prod.mk.inj h
  rw [h1,h2]
 suf:=fun r=>List.suffix_refl _
theorem par_ok {α:Type} (a z:α):Par (okS a z) where
 bad:=fun r h=>rfl
 ext:=fun l y rest q h=>by
  unfold okS at h ⊢
  obtain ⟨h1,h⟩:=Prod.mk.inj h
  obtain ⟨h2 , -⟩:=Prod.mk.inj h
  rw [if_pos rfl] at h1 ⊢
  rw [h1,h2]
 suf:=fun r=>List.suffix_refl _
theorem par_must (b:Bool):Par (mustU b) where
 bad:=fun r h=>by
  show mustS b r=r
  unfold mustS
  rw [if_neg (fun q=>h q.1)]
 ext:=fun l y rest q h=>by
  cases b with
  | true=>
   unfold mustU mustS at h ⊢
   rw [if_neg (by simp)] at h ⊢
   obtain ⟨-,h⟩:=Prod.mk.inj h
   obtain ⟨h2 , -⟩:=Prod.mk.inj h
   rw [h2]
  | false=>
   unfold mustU mustS at h
   rw [if_pos ⟨rfl,rfl⟩] at h
   have:=congrArg (fun x=>x.2.2) h
   exact absurd (show (3:Int)=0 from this) (by decide)
 suf:=fun r=>by
  show (mustS b r).1 <:+ _
  rw [must_1]
  exact List.suffix_refl _
theorem par_take (n:Nat):Par (takeS n) where
 bad:=fun r h=>by rw [take_bad h]
 ext:=fun l y rest q h=>by
  unfold takeS at h ⊢
  rw [if_neg (by simp)] at h ⊢
  dsimp only at h ⊢
  by_cases hl:l.length < n
  ·rw [if_pos hl] at h
   have:=congrArg (fun x=>x.2.2) h
   exact absurd (show (8:Int)=0 from this) (by decide)
  ·rw [if_neg hl] at h
   rw [if_neg (by rw [List.length_append];omega)]
   obtain ⟨h1,h2⟩:=Prod.mk.inj h
   obtain ⟨h2 , -⟩:=Prod.mk.inj h2
   rw [List.take_append_of_le_length (by omega),List.drop_append_of_le_length (by omega),h1,h2]
 suf:=fun r=>by
  unfold takeS
  split
  ·exact List.suffix_refl _
  ·split
   ·exact List.suffix_refl _
   ·exact List.drop_suffix _ _
theorem numS_eq:numS=bindS (takeS 1) fun hd=>if hd.length=0 then pureS 0 else bindS (mustU (decide (((hd.getD (0:Int).toNat default:Nat):Int)≤8))) fun _=>bindS (takeS (hd.getD (0:Int).toNat default)) fun L=>
  bindS (mustU (if L.length=0 then true else decide (0 < ((L.getD (0:Int).toNat default:Nat):Int)))) fun _=>okS (valB L) 0:=by
 funext r
 unfold numS
 show _=(if (takeS 1 r).1.length=0 then pureS 0 else _) (takeS 1 r).2
 by_cases h:(takeS 1 r).1.length=0
 ·rw [if_pos h,if_pos h];rfl
 ·rw [if_neg h,if_neg h];rfl
theorem par_num:Par numS:=by
 rw [numS_eq]
 refine par_bind (par_take 1) fun hd=>?_
 split
 ·exact par_pure _
 ·exact par_bind (par_must _) fun _=>par_bind (par_take _) fun L=>par_bind (par_must _) fun _=>par_ok _ _
theorem smallS_eq (most:Int):smallS most=bindS numS fun n=>bindS (mustU (decide (0≤most)&&decide ((n:Int)≤most))) fun _=>okS (n:Int) 0:=rfl
theorem par_small (most:Int):Par (smallS most):=by
 rw [smallS_eq]
 exact par_bind par_num fun _=>par_bind (par_must _) fun _=>par_ok _ _
def zig (n:Int):Nat:=if 0≤n then (2 * n).toNat else (2 * (-n - 1)+1).toNat
def unz (m:Nat):Int:=if m % 2=1 then -((m / 2:Nat):Int) - 1 else ((m / 2:Nat):Int)
def zOk (m:Nat):Bool:=if m % 2=0 then decide (m / 2≤4611686018427387904) else decide (m / 2 < 4611686018427387904)
def intB (n:Int):List Nat:=numB (zig n)
def intS:RS→Int × RS:=bindS numS fun m=>bindS (mustU (zOk m)) fun _=>okS (unz m) 0
theorem par_int:Par intS:=par_bind par_num fun _=>par_bind (par_must _) fun _=>par_ok _ _
def textB (b:List Nat):List Nat:=numB b.length++b
def textS (most:Int):RS→List Nat × RS:=bindS (smallS most) fun n=>takeS n.toNat
theorem par_text (most:Int):Par (textS most):=par_bind (par_small _) fun _=>par_take _
def allS {α:Type} (P:RS→α × RS):Nat→RS→List α × RS
 | 0=>pureS []
 | k+1=>bindS (allS P k) fun l=>bindS P fun a=>pureS (l++[a])
theorem par_all {α:Type} {P:RS→α × RS} (hP:Par P):∀ k,Par (allS P k)
 | 0=>par_pure _
 | k+1=>par_bind (par_all hP k) fun _=>par_bind hP fun _=>par_pure _
def manyS {α:Type} (P:RS→α × RS):Nat→RS→List α × RS
 | 0,r=>([],r)
 | k+1,r=>if (manyS P k r).2.2=0 then ((manyS P k r).1++[(P (manyS P k r).2).1],(P (manyS P k r).2).2) else manyS P k r
theorem par_many {α:Type} {P:RS→α × RS} (hP:Par P):∀ k,Par (manyS P k)
 | 0=>par_pure []
 | k+1=>{
  bad:=fun r h=>by
   have h1:=(par_many hP k).bad r h
   rw [manyS,if_neg (by rw [h1];exact h)]
   exact h1
  ext:=fun l y rest q h=>by
   rw [manyS] at h ⊢
   by_cases he:(manyS P k (l,0)).2.2=0
   ·rw [if_pos he] at h
    have e:manyS P k (l,0)=((manyS P k (l,0)).1,((manyS P k (l,0)).2.1,0)):=Prod.ext rfl (Prod.ext rfl he)
    have hx:=(par_many hP k).ext l _ _ q e
    rw [hx,if_pos rfl]
    obtain ⟨h1,h2⟩:=Prod.mk.inj h
    have e2:P ((manyS P k (l,0)).2.1,0)=((P (manyS P k (l,0)).2).1,(rest,0)):=by
     rw [show ((manyS P k (l,0)).2.1,(0:Int))=(manyS P k (l,0)).2 from Prod.ext rfl he.symm]
     exact Prod.ext rfl h2
    have hy:=hP.ext _ _ _ q e2
    dsimp only
    rw [hy,← h1]
   ·rw [if_neg he] at h
    exact absurd (by rw [h]) he
  suf:=fun r=>by
   rw [manyS]
   split
   ·exact (hP.suf _).trans ((par_many hP k).suf r)
   ·exact (par_many hP k).suf r }
theorem many_len {α:Type} (P:RS→α × RS) (r:RS):∀ k,(manyS P k r).1.length≤k
 | 0=>Nat.le_refl _
 | k+1=>by
  have:=many_len P r k
  rw [manyS]
  split
  ·rw [List.length_append,List.length_singleton];omega
  ·omega
theorem all_len {α:Type} (P:RS→α × RS):∀ k r,(allS P k r).1.length=k
 | 0,r=>rfl
 | k+1,r=>by
  have:=all_len P k r
  show ((allS P k r).1++[_]).length=_
  rw [List.length_append,List.length_singleton,this]
/-! back -/
theorem flat_drop {α:Type} (enc:α→List Nat) (L:List α) {k:Nat} (h:k < L.length):(L.drop k).flatMap enc=enc L[k]++(L.drop (k+1)).flatMap enc:=by
 rw [List.drop_eq_getElem_cons h,List.flatMap_cons]
theorem all_back {α:Type} {P:RS→α × RS} {enc:α→List Nat} {L:List α} (h:∀ a∈L,∀ q,P (enc a++q,0)=(a,(q,0))) (q:List Nat):∀ k,k≤L.length→allS P k (L.flatMap enc++q,0)=(L.take k,((L.drop k).flatMap enc++q,0))
 | 0,_=>rfl
 | k+1,hk=>by
  have ih:=all_back h q k (by omega)
  show bindS (allS P k) _ _=_
  unfold bindS
  rw [ih]
  dsimp only
  rw [flat_drop enc L (show k < L.length by omega),List.append_assoc,h _ (List.getElem_mem _),List.take_succ_eq_append_getElem (by omega)]
  rfl
theorem many_back {α:Type} {P:RS→α × RS} {enc:α→List Nat} {L:List α} (h:∀ a∈L,∀ q,P (enc a++q,0)=(a,(q,0))) (q:List Nat):∀ k,k≤L.length→manyS P k (L.flatMap enc++q,0)=(L.take k,((L.drop k).flatMap enc++q,0))
 | 0,_=>rfl
 | k+1,hk=>by
  have ih:=many_back h q k (by omega)
  rw [manyS,ih]
  dsimp only
  rw [if_pos rfl,flat_drop enc L (show k < L.length by omega),List.append_assoc,h _ (List.getElem_mem _),List.take_succ_eq_append_getElem (by omega)]
theorem valB_be:∀ (f x:Nat),x < 256 ^ f→valB (beF f x)=x
 | 0,x,h=>by rw [Nat.pow_zero] at h;rw [show x=0 by omega];rfl
 | f+1,x,h=>by
  rw [beF]
  split
  ·rename_i hx;rw [hx];rfl
  ·rw [valB_snoc,valB_be f (x / 256) (by rw [Nat.pow_succ] at h;exact Nat.div_lt_of_lt_mul (by rw [Nat.mul_comm];exact h))]
   omega
theorem be_head:∀ (f x:Nat),x < 256 ^ f→(beF f x).length≠0→0 < (beF f x).getD 0 default
 | 0,x,_,h=>absurd rfl h
 | f+1,x,hx,h=>by
  rw [beF] at h ⊢
  by_cases h0:x=0
  ·rw [if_pos h0] at h;exact absurd rfl h
  ·rw [if_neg h0]
   have hx':x / 256 < 256 ^ f:=by rw [Nat.pow_succ] at hx;exact Nat.div_lt_of_lt_mul (by rw [Nat.mul_comm];exact hx)
   by_cases hl:(beF f (x / 256)).length=0
   ·have e:=List.eq_nil_of_length_eq_zero hl
    have hz:x / 256=0:=by
     have:=valB_be f (x / 256) hx'
     rw [e] at this
     exact this.symm
    rw [e]
    show 0 < x % 256
    omega
   ·rw [List.getD_eq_getElem?_getD,List.getElem?_append_left (by omega),← List.getD_eq_getElem?_getD]
    exact be_head f (x / 256) hx' hl
theorem take_ok {n:Nat} {a q:List Nat} (h:a.length=n):takeS n (a++q,0)=(a,(q,0)):=by
 unfold takeS
 rw [if_neg (by simp)]
 dsimp only
 rw [if_neg (by rw [List.length_append];omega),List.take_append_of_le_length (by omega),List.take_of_length_le (by omega),List.drop_append_of_le_length (by omega),List.drop_of_length_le (by omega)]
 rfl
theorem must_ok {b:Bool} {r:RS} (h:b=true):mustU b r=((),r):=by
 unfold mustU mustS
 rw [if_neg (by rw [h];simp)]
theorem num_back {x:Nat} (hx:x < 18446744073709551616) (q:List Nat):numS (numB x++q,0)=(x,(q,0)):=by
 have hx':x < 256 ^ 8:=hx
 have h8:(be x).length≤8:=beF_le 8 x
 rw [numS_eq]
 unfold bindS
 have e1:takeS 1 (numB x++q,0)=([(be x).length],(be x++q,0)):=take_ok (n:=1) (a:=[(be x).length]) (q:=be x++q) rfl
 rw [e1]
 dsimp only
 rw [if_neg (by simp)]
 have e2:([(be x).length]:List Nat).getD (0:Int).toNat default=(be x).length:=rfl
 rw [e2,must_ok (decide_eq_true (by omega))]
 dsimp only
 rw [take_ok rfl]
 dsimp only
 rw [must_ok (by
  split
  ·rfl
  ·rename_i h
   refine decide_eq_true ?_
   have:=be_head 8 x hx' h
   exact Int.natCast_pos.2 this)]
 show okS (valB (be x)) 0 (q,0)=_
 unfold okS
 rw [if_pos rfl,show valB (be x)=x from valB_be 8 x hx']
theorem small_back {x:Nat} {most:Int} (hx:(x:Int)≤most) (hm:most≤9223372036854775807) (q:List Nat):smallS most (numB x++q,0)=((x:Int),(q,0)):=by
 rw [smallS_eq]
 unfold bindS
 rw [num_back (by omega)]
 dsimp only
 rw [must_ok (by rw [decide_eq_true (show 0≤most by omega),decide_eq_true hx];rfl)]
 rfl
theorem zig_unz (n:Int):unz (zig n)=n:=by
 unfold unz zig
 by_cases h:0≤n
 ·rw [if_pos h,if_neg (by omega)];omega
 ·rw [if_neg h,if_pos (by omega)];omega
theorem zig_ok {n:Int} (h : -4611686018427387904≤n∧n≤4611686018427387904):zOk (zig n)=true∧zig n < 18446744073709551616:=by
 unfold zOk zig
 by_cases h0:0≤n
 ·rw [if_pos h0,if_pos (by omega)]
  exact ⟨decide_eq_true (by omega),by omega⟩
 ·rw [if_neg h0,if_neg (by omega)]
  exact ⟨decide_eq_true (by omega),by omega⟩
theorem int_back {n:Int} (h : -4611686018427387904≤n∧n≤4611686018427387904) (q:List Nat):intS (intB n++q,0)=(n,(q,0)):=by
 unfold intS intB bindS
 rw [num_back (zig_ok h).2]
 dsimp only
 rw [must_ok (zig_ok h).1]
 unfold okS
 rw [if_pos rfl,zig_unz]
theorem text_back {b:List Nat} {most:Int} (h:(b.length:Int)≤most) (hm:most≤9223372036854775807) (q:List Nat):textS most (textB b++q,0)=(b,(q,0)):=by
 unfold textS textB bindS
 rw [List.append_assoc,small_back h hm]
 dsimp only
 rw [Int.toNat_natCast]
 exact take_ok rfl
def numI (n:Int):List Nat:=numB n.toNat
def vecB (v:List Int):List Nat:=v.flatMap numI
def entB (e:Ent):List Nat:=numI e.1++(numI e.2.1++(numI e.2.2.1++intB e.2.2.2))
def cartB (c:Crt):List Nat:=vecB c.1++(numB c.2.length++c.2.flatMap entB)
def numZ:RS→Int × RS:=bindS numS fun n=>pureS (n:Int)
theorem par_numZ:Par numZ:=par_bind par_num fun _=>par_pure _
def vecS:RS→List Int × RS:=bindS (allS numZ 8) fun v=>okS v zeroV
theorem par_vec:Par vecS:=par_bind (par_all par_numZ 8) fun _=>par_ok _ _
def entS:RS→Ent × RS:=bindS (smallS 60) fun a=>bindS (smallS 8) fun b=>bindS numZ fun c=>bindS intS fun d=>pureS (a,b,c,d)
theorem par_ent:Par entS:=par_bind (par_small _) fun _=>par_bind (par_small _) fun _=>par_bind par_numZ fun _=>par_bind par_int fun _=>par_pure _
def cartS:RS→Crt × RS:=bindS vecS fun v=>bindS (smallS 400) fun n=>bindS (manyS entS n.toNat) fun l=>bindS (mustU (rightF v l)) fun _=>okS (v,l) (zeroV,[])
theorem par_cart:Par cartS:=par_bind par_vec fun _=>par_bind (par_small _) fun _=>par_bind (par_many par_ent _) fun _=>par_bind (par_must _) fun _=>par_ok _ _
def endS (r:RS):Int:=if r.2≠0 then r.2 else if 0 < r.1.length then 2 else 0
def vecOk (v:List Int):Prop:=v.length=8∧∀ n∈v,0≤n∧n < 18446744073709551616
theorem numZ_back {n:Int} (h:0≤n∧n < 18446744073709551616) (q:List Nat):numZ (numI n++q,0)=(n,(q,0)):=by
 unfold numZ numI bindS
 rw [num_back (by omega)]
 show ((n.toNat:Int),(q,(0:Int)))=_
 rw [Int.toNat_of_nonneg h.1]
theorem vec_back {v:List Int} (h:vecOk v) (q:List Nat):vecS (vecB v++q,0)=(v,(q,0)):=by
 have h1:=all_back (P:=numZ) (enc:=numI) (L:=v) (fun a ha q=>numZ_back (h.2 a ha) q) q 8 (by rw [h.1];exact Nat.le_refl _)
 unfold vecS bindS vecB
 rw [h1,List.take_of_length_le (by rw [h.1];exact Nat.le_refl _),List.drop_of_length_le (by rw [h.1];exact Nat.le_refl _)]
 rfl
theorem smallI_back {n most:Int} (h0:0≤n) (h:n≤most) (hm:most≤9223372036854775807) (q:List Nat):smallS most (numI n++q,0)=(n,(q,0)):=by
 unfold numI
 rw [small_back (by omega) hm,Int.toNat_of_nonneg h0]
def entOk (e:Ent):Prop:=(0≤e.1∧e.1≤60)∧(0≤e.2.1∧e.2.1≤8)∧(0≤e.2.2.1∧e.2.2.1 < 18446744073709551616)∧(-1000≤e.2.2.2∧e.2.2.2≤1000)
theorem ent_back {e:Ent} (h:entOk e) (q:List Nat):entS (entB e++q,0)=(e,(q,0)):=by
 obtain ⟨h1,h2,h3,h4⟩:=h
 unfold entS entB bindS
 rw [List.append_assoc,smallI_back h1.1 h1.2 (by decide)]
 dsimp only
 rw [List.append_assoc,smallI_back h2.1 h2.2 (by decide)]
 dsimp only
 rw [List.append_assoc,numZ_back h3]
 dsimp only
 rw [int_back (by omega)]
 rfl
theorem get_fit {v:List Int} (h:∀ n∈v,0≤n∧n < 18446744073709551616) (i:Int):getF v i < 18446744073709551616:=by
 unfold getF
 split
 ·rcases Nat.lt_or_ge (i - 1).toNat v.length with hj|hj
  ·have e:v.getD (i - 1).toNat default=v[(i - 1).toNat]:=getD_at hj
   first|(rw [e];exact (h _ (List.getElem_mem _)).2)|omega
  ·rw [List.getD_eq_getElem?_getD,List.getElem?_eq_none hj];decide
 ·decide
theorem ok_ents {c:Crt} (hr:rightF c.1 c.2=true) (hv:vecOk c.1):∀ e∈c.2,entOk e:=by
 intro e he
 have ho:=ok_iff.1 hr
 have h1:=ho.ent e he
 have h2:=ho.has e he
 unfold entF at h1
 unfold hasF dotF at h2
 have h1:=of_decide_eq_true h1
 rw [Bool.and_eq_true,decide_eq_true_eq,decide_eq_true_eq] at h2
 obtain ⟨⟨b1,b2,b3⟩,b4⟩:=h2
 have b1:1≤e.2.1:=b1
 have b2:e.2.1≤8:=b2
 have b3:0 < e.2.2.1:=b3
 have b4:e.2.2.1≤getF c.1 e.2.1:=b4
 have:=get_fit hv.2 e.2.1
 unfold entOk
 omega
theorem cart_back {c:Crt} (hr:rightF c.1 c.2=true) (hv:vecOk c.1) (q:List Nat):cartS (cartB c++q,0)=(c,(q,0)):=by
 have hl:c.2.length≤400:=(ok_iff.1 hr).few
 have hm:=many_back (P:=entS) (enc:=entB) (L:=c.2) (fun a ha q=>ent_back (ok_ents hr hv a ha) q) q c.2.length (Nat.le_refl _)
 unfold cartS cartB bindS
 rw [List.append_assoc,vec_back hv]
 dsimp only
 rw [List.append_assoc,small_back (by omega) (by decide)]
 dsimp only
 rw [Int.toNat_natCast,hm]
 dsimp only
 rw [List.take_of_length_le (Nat.le_refl _),List.drop_of_length_le (Nat.le_refl _),must_ok hr]
 rfl
/-! lists -/
abbrev Kd:=List Nat × Crt
def bLt:List Nat→List Nat→Bool
 | [],[]=>false
 | [],_::_=>true
 | _::_,[]=>false
 | a::l,b::m=>if a=b then bLt l m else decide (a < b)
def kdB (k:Kd):List Nat:=textB k.1++cartB k.2
def listB (l:List Kd):List Nat:=numB l.length++l.flatMap kdB
def kdS:RS→Kd × RS:=bindS (textS 20) fun k=>bindS cartS fun c=>pureS (k,c)
theorem par_kd:Par kdS:=par_bind (par_text _) fun _=>par_bind par_cart fun _=>par_pure _
def listS:RS→List Kd × RS:=bindS (smallS 2000) fun n=>manyS kdS n.toNat
def kdOk (l:List Kd) (i:Nat):Bool:=decide ((l.getD i default).1.length≤20)&&((decide (i=0)||bLt (l.getD (i - 1) default).1 (l.getD i default).1)&&rightF (l.getD i default).2.1 (l.getD i default).2.2)
def keysF (l:List Kd):Bool:=decide (l.length≤2000∧∀ i,i < l.length→kdOk l i=true)
def readL (b:List Nat):List Kd × Int:=if endS (listS (b,0)).2≠0∨keysF (listS (b,0)).1=false then ([],3) else ((listS (b,0)).1,0)
end Go.Proofs.YtkgploeegbmofaaGreat.Wi
namespace Go.Aw
open Go Go.RowKit
set_option linter.unusedVariables false
set_option linter.unusedSimpArgs false
def bufC (ty:TypeId) (es c:Nat) (rows:List (List PVal)):AObj where
 holds X b fp:=0 < es∧c≤maxLen∧rows.length≤c∧fp=[b]∧∃ arr,X.w.heap[b]?=some (.cells arr ty (0,0))∧arr.size=c * es∧RowsAt X arr 0 es rows
 mono:=by
  rintro x y b fp hle hf ⟨h0,h1,h2,rfl,arr,h3,h4,h5⟩
  refine ⟨h0,h1,h2,rfl,arr,(hf b (by simp)).trans h3,h4,fun i row hr=>⟨(h5 i row hr).1,fun j p hp=>?_⟩⟩
  obtain ⟨c,hc,hh⟩:=(h5 i row hr).2 j p hp
  exact ⟨c,hc,p.mono hle hh⟩
section ops
variable {C:Ctx} {o:Oper} {σ:St}
theorem slice_asl {T e:TypeId} {x:Operand} {lo hi:Option Operand} {sz by_:Nat} (hT:TI C.P T (.slice e) sz by_) {ke:TK} {sze be:Nat} (he:TI C.P e ke sze be) {ob g off len cap l h:Nat} (vlo vhi:Option (IntKind × Int))
  (ho:o.op=.slice T x lo hi none) (hx:σ.look x=.o (.asl ob g off len cap)) (hlo:lo.map σ.look=vlo.map fun p=>.p (.v (.int p.1 p.2))) (hhi:hi.map σ.look=vhi.map fun p=>.p (.v (.int p.1 p.2)))
  (hb:∀ w,(Instr.sliceBounds true len cap (vlo.map fun p=>.int p.1 p.2) (vhi.map fun p=>.int p.1 p.2) none).run C.P w=.ok (l,h,cap) w) (hlc:l < cap∨l=0) (hd:dOk C o.dst=true) :
  LOp C o σ ⟨.o (.asl ob g (off+l * sze) (h - l) (cap - l)),[]⟩ (fun _=>false):=
 lop_val hd fun τ a w G hl hm' hr=>by
  obtain ⟨b,c,h1,h2⟩:=look_of hr ((hl x (by simp [ho,Op.operands])).trans hx)
  have opt:∀ (q:Option Operand) (v:Option (IntKind × Int)),(∀ y,q=some y→y∈o.op.operands)→q.map σ.look=v.map (fun p=>AV.p (.v (.int p.1 p.2)))→q.map a.eval=v.map fun p=>Value.int p.1 p.2:=fun q v hq hv=>by
   cases q with
   | none=>cases v<;>simp_all
   | some y=>
    cases v with
    | none=>simp at hv
    | some p=>
     simp only [Option.map_some,Option.some.injEq] at hv ⊢
     exact val_of hr ((hl y (hq y rfl)).trans hv)
  have e1:=opt lo vlo (fun y hy=>by subst hy;simp [ho,Op.operands]) hlo
  have e2:=opt hi vhi (fun y hy=>by subst hy;simp [ho,Op.operands]) hhi
  obtain ⟨d,hdd,hkk⟩:=hT.undd
  have:d=.slice e:=by cases d<;>simp [TK.of] at hkk;rw [hkk]
  subst this
  refine ⟨.slice (some ⟨b,off+l * sze,none⟩) (h - l) (cap - l),?_,b,c,h1,rfl⟩
  have hbase:(if cap=l then (some ⟨b,off,none⟩:Option Addr) else (some (⟨b,off,none⟩:Addr)).map (·.add (l * sze)))=some ⟨b,off+l * sze,none⟩:=by
   by_cases hc:cap=l
   ·have:l=0:=by omega
    rw [if_pos hc,this,Nat.zero_mul,Nat.add_zero]
   ·rw [if_neg hc,Option.map_some,add_addr]
  simp only [execOp,ho,Instr.sliceAt,Sem.run_bind,run_underlying hdd,Result.andThen_ok,Instr.slice,h2,e1,e2,Option.map_none,hb,he.run_sizeOf,Sem.run_pure,hbase]
theorem lop_sl_asl_l {T e:TypeId} {x xl:Operand} {sz by_:Nat} {ke:TK} {sze be:Nat} {ob g off len cap:Nat} {kl:IntKind} {l:Int} (ho:o.op=.slice T x (some xl) none none) (hT:TI C.P T (.slice e) sz by_) (he:TI C.P e ke sze be) (hx:σ.look x=.o (.asl ob g off len cap)) (hlo:σ.look xl=.p (.v (.int kl l))) (h0:0≤l) (h1:l≤len) (h2:len≤cap) (h3:l.toNat < cap) (hd:dOk C o.dst=true) :
  LOp C o σ ⟨.o (.asl ob g (off+l.toNat * sze) (len - l.toNat) (cap - l.toNat)),[]⟩ (fun _=>false):=
 slice_asl hT he (some (kl,l)) none ho hx (by simp [hlo]) rfl (fun w=>by simp [Instr.sliceBounds,run_sb h0 h1]) (.inl h3) hd
theorem lop_sl_osl_l {T e:TypeId} {x xl:Operand} {sz by_:Nat} {ke:TK} {sze be:Nat} {ob g len:Nat} {kl:IntKind} {l:Int} (ho:o.op=.slice T x (some xl) none none) (hT:TI C.P T (.slice e) sz by_) (he:TI C.P e ke sze be) (hx:σ.look x=.o (.osl ob g sze 0 len)) (hlo:σ.look xl=.p (.v (.int kl l))) (h0:0≤l) (h1:l < len) (hd:dOk C o.dst=true) :
  LOp C o σ ⟨.o (.osl ob g sze l.toNat (len - l.toNat)),[]⟩ (fun _=>false):=
 lop_val hd fun τ a w G hl hm' hr=>by
  obtain ⟨m,c,k1,k2,k3⟩:=look_of hr ((hl x (by simp [ho,Op.operands])).trans hx)
  have e1:=val_of hr ((hl xl (by simp [ho,Op.operands])).trans hlo)
  obtain ⟨d,hdd,hkk⟩:=hT.undd
  have:d=.slice e:=by cases d<;>simp [TK.of] at hkk;rw [hkk]
  subst this
  simp only [Nat.zero_mul,Nat.sub_zero,Nat.zero_add] at k2 k3
  refine ⟨.slice (m.map fun b=>⟨b,l.toNat * sze,none⟩) (len - l.toNat) (c - l.toNat),?_,m,c,k1,by omega,rfl⟩
  have hb:(Instr.sliceBounds true len c (some (.int kl l)) none none).run C.P w=.ok (l.toNat,len,c) w:=by simp [Instr.sliceBounds,run_sb h0 (show l≤len by omega)]
  have hne:¬ c=l.toNat:=by omega
  simp only [execOp,ho,Instr.sliceAt,Sem.run_bind,run_underlying hdd,Result.andThen_ok,Instr.slice,k3,e1,Option.map_some,Option.map_none,hb,he.run_sizeOf,Sem.run_pure,if_neg hne]
  cases m with
  | none=>rfl
  | some b=>simp only [Option.map_some,add_addr,Nat.zero_add]
theorem run_copy_es {P:Program} (w:World) (dT sT ty elem:TypeId) (g o dLen dCap:Nat) (a:Addr) (sLen sCap es:Nat) (cur:Array Value) (t:TypeId) (cs:List Value)
  (hu:P.underlying dT=some (.slice elem)) (hs:∀ w,(sizeOf elem).run P w=.ok es w)
  (hg:w.heap[g]?=some (.cells cur t (0,0))) (hn:cs.length=Nat.min sLen dLen * es)
  (hsrc:∀ j v,cs[j]?=some v→w.cell? (a.add j)=some v) (hfit:o+cs.length≤cur.size) (h1:∀ v∈cs,v.oneCell'=true) :
  (Builtin.copy_ #[dT,sT] ty #[.slice (some ⟨g,o,none⟩) dLen dCap,.slice (some a) sLen sCap]).run P w =
   .ok (goInt (Nat.min sLen dLen)) (w.setRow g (cur.toList.take o++cs++cur.toList.drop (o+cs.length)).toArray):=by
 have hl:=run_loadCells_list (P:=P) w a cs hsrc
 have hst:=run_storeCells_at P g o t cs 0 cur w hg (by simpa using hfit) h1
 simp only [Nat.add_zero] at hst
 simp [Builtin.copy_,run_underlying hu,Builtin.lenOf,Builtin.firstCells,hs,← hn,hl,hst]
theorem rowsAt_over {X:Wd} {arr:Array Value} {es d k:Nat} {rows news:List (List PVal)} {nvs:List Value} (hes:0 < es) (hr:RowsAt X arr 0 es rows) (hnv:nvs.length=k * es) (hnl:news.length=k) (hd:d≤rows.length) (hfit:(d+k) * es≤arr.size)
  (hnew:∀ i row,news[i]?=some row→row.length=es∧∀ j p,row[j]?=some p→∃ c,nvs[i * es+j]?=some c∧p.holds X c) :
  RowsAt X (arr.toList.take (d * es)++nvs++arr.toList.drop (d * es+nvs.length)).toArray 0 es (rows.take d++news++rows.drop (d+k)):=by
 have hsz:arr.toList.length=arr.size:=Array.length_toList
 rw [Nat.add_mul] at hfit
 have htl:(arr.toList.take (d * es)).length=d * es:=by rw [List.length_take];omega
 have hrt:(rows.take d).length=d:=by rw [List.length_take];omega
 intro i row hrow
 by_cases h1:i < d
 ·rw [List.append_assoc,List.getElem?_append_left (by omega),List.getElem?_take,if_pos h1] at hrow
  refine ⟨(hr i row hrow).1,fun j p hp=>?_⟩
  obtain ⟨c,hc,hh⟩:=(hr i row hrow).2 j p hp
  refine ⟨c,?_,hh⟩
  have hj:j < es:=by rw [← (hr i row hrow).1];exact (List.getElem?_eq_some_iff.1 hp).1
  have hij:i * es+j < d * es:=by
   have:(i+1) * es≤d * es:=Nat.mul_le_mul_right _ h1
   rw [Nat.add_mul] at this;omega
  rw [List.getElem?_toArray,Nat.zero_add,List.append_assoc,List.getElem?_append_left (by omega),List.getElem?_take,if_pos hij]
  rw [Nat.zero_add] at hc
  simpa using hc
 ·by_cases h2:i < d+k
  ·rw [List.append_assoc,List.getElem?_append_right (by omega),hrt,List.getElem?_append_left (by omega)] at hrow
   refine ⟨(hnew _ row hrow).1,fun j p hp=>?_⟩
   obtain ⟨c,hc,hh⟩:=(hnew _ row hrow).2 j p hp
   refine ⟨c,?_,hh⟩
   have e:(i - d) * es=i * es - d * es:=Nat.sub_mul _ _ _
   have hle:d * es≤i * es:=Nat.mul_le_mul_right _ (by omega)
   rw [List.getElem?_toArray,Nat.zero_add,List.append_assoc,List.getElem?_append_right (by omega),htl,List.getElem?_append_left (by
    have:=(List.getElem?_eq_some_iff.1 hc).1;omega),← hc]
   congr 1;omega
  ·rw [List.append_assoc,List.getElem?_append_right (by omega),hrt,List.getElem?_append_right (by omega),hnl,List.getElem?_drop] at hrow
   have ei:d+k+(i - d - k)=i:=by omega
   rw [ei] at hrow
   refine ⟨(hr i row hrow).1,fun j p hp=>?_⟩
   obtain ⟨c,hc,hh⟩:=(hr i row hrow).2 j p hp
   refine ⟨c,?_,hh⟩
   have hle:(d+k) * es≤i * es:=Nat.mul_le_mul_right _ (by omega)
   rw [Nat.add_mul] at hle
   rw [List.getElem?_toArray,Nat.zero_add,List.append_assoc,List.getElem?_append_right (by omega),htl,List.getElem?_append_right (by omega),List.getElem?_drop]
   rw [Nat.zero_add] at hc
   have ek:d * es+nvs.length+(i * es+j - d * es - nvs.length)=i * es+j:=by omega
   rw [ek]
   simpa using hc
def SrcN (C:Ctx) (σ:St) (x:Operand) (es L:Nat) (news:List (List PVal)) (ro:Nat→Bool):Prop:=
 ∀ τ a w G,τ.look x=σ.look x→(∀ y,ro y=true→τ.mem y=σ.mem y)→RelG C τ a w G→
  ∃ ad cap,a.eval x=.slice (some ad) L cap∧∀ i row,news[i]?=some row→row.length=es∧∀ j p,row[j]?=some p→∃ c,w.cell? (ad.add (i * es+j))=some c∧p.holds ⟨w,G.S⟩ c
theorem SrcOk.n {C:Ctx} {σ:St} {x:Operand} {es:Nat} {news:List (List PVal)} {ro:Nat→Bool} (h:SrcOk C σ x es news ro) (h0:0 < news.length):SrcN C σ x es news.length news ro:=fun τ a w G h1 h2 hr=>by
 obtain ⟨base,cap,e1,e2⟩:=h τ a w G h1 h2 hr
 cases base with
 | none=>simp only at e2;rw [e2] at h0;cases h0
 | some ad=>exact ⟨ad,cap,e1,e2⟩
end ops
end Go.Aw
namespace Go.Aw
open Go Go.RowKit
set_option linter.unusedVariables false
set_option linter.unusedSimpArgs false
class OvF (P:Program) (f:FuncId) (tS tR:TypeId):Prop where
  fn : ∃ fn, P.funcs[f]? = some fn ∧ (fn.name == "runtime.NumGoroutine") = false ∧ fn.body.isNone = true ∧ Extern.findNext fn = none ∧ Extern.find fn = some (Extern.SlicesOverlaps.overlaps #[tS, tS] #[tR])
def cellH (X:Wd) (tyB es:Nat) (r:Option (List (List PVal))) (v:Value) (f:List Nat):Prop:=
 match r with
 | some rows=>∃ m c,v=.slice (m.map fun b=>(⟨b,0,none⟩:Addr)) rows.length c∧(MO.buf tyB es rows).holds Mu.none X (m,c) f
 | none=>v.oneCell'=true∧f=[]
theorem cellH.mono {x y:Wd} {tyB es:Nat} {r:Option (List (List PVal))} {v:Value} {f:List Nat} (hle:x.le y) (hf:∀ k,k∈f→y.w.heap[k]?=x.w.heap[k]?) (h:cellH x tyB es r v f):cellH y tyB es r v f:=by
 cases r with
 | none=>exact h
 | some rows=>obtain ⟨m,c,h1,h2⟩:=h;exact ⟨m,c,h1,h2.mono (Mu.le.refl _) hle hf⟩
theorem cellH.one {X:Wd} {tyB es:Nat} {r:Option (List (List PVal))} {v:Value} {f:List Nat} (h:cellH X tyB es r v f):v.oneCell'=true:=by
 cases r with
 | none=>exact h.1
 | some rows=>obtain ⟨m,c,rfl,_⟩:=h;rfl
theorem RelG.split {C:Ctx} {σ:St} {a:Act} {w:World} {G:Gh} (h:RelG C σ a w G) {o d n nd:Nat} {mo0 mod0:Option MO} {moo mod:MO} {m:Option Nat × Nat} {fo fd:List Nat} (hne:d≠o) (ho:σ.mem o=(n,mo0)) (hd:σ.mem d=(nd,mod0))
  (hfo:∀ b,b∈fo→b∈G.φ o) (hfd:∀ b,b∈fd→b∈G.φ o) (hdis:∀ b,b∈fo→b∈fd→False)
  (hO:∃ g mm,n=g+1∧(G.μ o)[g]?=some mm∧moo.holds (fun x=>if x=d then G.μ d++[m] else G.μ x) ⟨w,G.S⟩ mm fo) (hD:mod.holds (fun x=>if x=d then G.μ d++[m] else G.μ x) ⟨w,G.S⟩ m fd) :
  RelG C ((σ.put d (nd+1,some mod)).put o (n,some moo)) a w ⟨fun x=>if x=d then G.μ d++[m] else G.μ x,G.S,fun x=>if x=d then fd else if x=o then fo else G.φ x⟩:=by
 have hlen:(G.μ d).length=nd:=by have:=h.gens d;rw [hd] at this;exact this
 have hmu:G.μ.le (fun x=>if x=d then G.μ d++[m] else G.μ x):=mu_le
 have hfp:∀ {x k},k∈(if x=d then fd else if x=o then fo else G.φ x)→k∈G.φ (if x=d then o else x)∧(x=d→k∈fd)∧(x=o→k∈fo):=fun {x k} hk=>by
  by_cases hx:x=d
  ·rw [if_pos hx] at hk
   exact ⟨by rw [if_pos hx];exact hfd k hk,fun _=>hk,fun e=>absurd (hx.symm.trans e) hne⟩
  ·rw [if_neg hx] at hk
   rw [if_neg hx]
   by_cases hxo:x=o
   ·rw [if_pos hxo] at hk
    exact ⟨by rw [hxo];exact hfo k hk,fun e=>absurd e hx,fun _=>hk⟩
   ·rw [if_neg hxo] at hk
    exact ⟨hk,fun e=>absurd e hx,fun e=>absurd e hxo⟩
 exact {
  size:=h.size
  defers:=fun e he=>by
   obtain ⟨b',rfl,h1,h2,h3,h4,h5⟩:=h.defers e he
   exact ⟨b',rfl,h1,h2,h3,h4,fun x hx=>h5 _ (hfp hx).1⟩
  dnod:=h.dnod
  mle:=h.mle.trans hmu
  env:=fun t=>(h.env t).mono hmu (Wd.le.refl _)
  gens:=fun x=>by
   by_cases hx:x=d
   ·subst hx;simp [St.put,hne,hlen]
   ·by_cases hxo:x=o
    ·subst hxo;have:=h.gens x;rw [ho] at this;simpa [St.put,hx] using this
    ·simpa [St.put,hx,hxo] using h.gens x
  mem:=fun x n' mo' hx=>by
   by_cases hxo:x=o
   ·subst hxo
    simp only [St.put,if_true,Prod.mk.injEq] at hx
    obtain ⟨rfl,hx⟩:=hx
    obtain rfl:=Option.some.inj hx
    obtain ⟨g,mm,e1,e2,e3⟩:=hO
    exact ⟨g,mm,e1,by simpa [hne.symm] using e2,by simpa [hne.symm] using e3⟩
   ·by_cases hxd:x=d
    ·subst hxd
     simp only [St.put,hxo,if_false,if_true,Prod.mk.injEq] at hx
     obtain ⟨rfl,hx⟩:=hx
     obtain rfl:=Option.some.inj hx
     exact ⟨nd,m,rfl,by simp [← hlen],by simpa using hD⟩
    ·simp only [St.put,hxd,hxo,if_false] at hx
     obtain ⟨g,m2,hn,hm2,hh⟩:=h.mem x n' mo' hx
     refine ⟨g,m2,hn,by simpa [hxd] using hm2,?_⟩
     simp only [hxo,hxd,if_false]
     exact hh.mono hmu (Wd.le.refl _) fun k hk=>rfl
  apart:=fun x y b' hxy hbx hby=>by
   have h1:=hfp hbx
   have h2:=hfp hby
   by_cases hx:x=d<;>by_cases hy:y=d
   ·exact hxy (hx.trans hy.symm)
   ·by_cases hyo:y=o
    ·exact hdis b' (h2.2.2 hyo) (h1.2.1 hx)
    ·have a1:=h1.1;have a2:=h2.1
     rw [if_pos hx] at a1;rw [if_neg hy] at a2
     exact h.apart o y b' (Ne.symm hyo) a1 a2
   ·by_cases hxo:x=o
    ·exact hdis b' (h1.2.2 hxo) (h2.2.1 hy)
    ·have a1:=h1.1;have a2:=h2.1
     rw [if_neg hx] at a1;rw [if_pos hy] at a2
     exact h.apart x o b' hxo a1 a2
   ·have a1:=h1.1;have a2:=h2.1
    rw [if_neg hx] at a1;rw [if_neg hy] at a2
    exact h.apart x y b' hxy a1 a2
  stab:=fun x b' hb=>h.stab _ b' (hfp hb).1
  own:=fun x b' hb=>h.own _ b' (hfp hb).1
  sbd:=h.sbd
  ssub:=h.ssub
  fr:=h.fr }
section ops
variable {C:Ctx} {o:Oper} {σ:St}
end ops
end Go.Aw
