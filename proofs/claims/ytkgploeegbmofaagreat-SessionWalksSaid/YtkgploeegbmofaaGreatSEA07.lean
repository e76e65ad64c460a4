/- carts: dots as a set -/
import Derived.Test.YtkgploeegbmofaaGreatSEA05
import Derived.Test.YtkgploeegbmofaaGreatSEA06
import Derived.Test.YtkgploeegbmofaaGreatSEA02
namespace Go.Proofs.YtkgploeegbmofaaGreat.Ca
open Go Go.RowKit Go.Aw Go.Aw.Cart
set_option linter.unusedVariables false
set_option linter.unusedSimpArgs false
set_option maxRecDepth 8000
set_option maxHeartbeats 4000000
namespace G
theorem lop_bst2 {C:Ctx} {o:Oper} {σ:St} {T e:TypeId} {x0:Operand} {sz by_ es be:Nat} {ke:TK} {z:List Value} {p0 p1:PVal} (ho:o.op=.buildSlice T 1 #[(0,x0)]) (hT:TI C.P T (.slice e) sz by_) (he:TI C.P e ke es be) (hz:TZ C.P e z) (h0:σ.look x0=.a [.p p0,.p p1]) (hes:es=2) (hd:dOk C o.dst=true) :
  LOp C o σ ⟨.p (.sl es [[p0,p1]] true),[]⟩ (fun _=>false):=by
 subst hes
 exact lop_buildSlice (ps:=[(0,[p0,p1])]) ho (.cons ⟨rfl,by simp,_,h0,by simp [SV.cells]⟩ .nil) rfl (by omega) (by omega) hd
theorem lopC {C:Ctx} {o:Oper} {σ:St} {e:Eff} {ro:Nat→Bool} (h:LOp C o σ e ro:=by
  first|(apply lop_bst2;(focus rfl);(focus exact inferInstance);(focus exact inferInstance);(focus exact inferInstance);(focus rfl);(focus rfl);(focus rfl))|exact lopY|fail):LOp C o σ e ro:=h
section steps
variable {C:Ctx} {ops:Array Oper} {o:Oper} {rest:List Oper} {K:St→Prop} {σ:St} {e:Eff} {ro:Nat→Bool} {W:List (Nat × Nat)} {i:Nat}
theorem rnC {d:Nat} (hg:Guard ops σ o true:=by first|exact gd_n rfl rfl|exact gd_t rfl rfl rfl rfl|exact gd_t rfl rfl rfl (by assumption)) (hd:o.dst=some d:=by rfl) (h:LOp C o σ e ro:=by exact lopC) (hk:RunN C ops rest K (e.app (some d) σ)):RunN C ops (o::rest) K σ:=rn_any hg hd h hk
end steps
instance {c g n len:Nat} {l:List Dot}:OC Tryz.prog 188 [.o (.osl c g 2 0 len)] [(c,(n,some (.buf 179 2 (l.map dR))))] [] (len=l.length∧n=g+1∧l.length≤1000000000) (.o (.osl c g 2 0 (comp l).length)) [(c,(n,some (.buf 179 2 ((comp l).map dR))))]:=⟨fun h=>by obtain ⟨rfl,rfl,h⟩:=h;exact (compactD_o g l h).one c⟩
def setTo (l:List Dot) (j:Nat):List Dot:=(l.take j).filter dotF
theorem setTo_succ {l:List Dot} {j:Nat} (h:j < l.length):setTo l (j+1)=setTo l j++(if dotF (l.getD j default)=true then [l.getD j default] else []):=by
 have e:l.getD j default=l[j]:=by rw [List.getD_eq_getElem?_getD,List.getElem?_eq_getElem h];rfl
 rw [setTo,setTo,List.take_succ_eq_append_getElem h,List.filter_append,e]
 congr 1
 by_cases hx:dotF l[j]=true
 ·rw [if_pos hx,List.filter_cons_of_pos hx,List.filter_nil]
 ·rw [if_neg hx,List.filter_cons_of_neg hx,List.filter_nil]
theorem setTo_len {l:List Dot} {j:Nat}:(setTo l j).length≤l.length:=by
 unfold setTo
 exact Nat.le_trans (List.length_filter_le _ _) (by rw [List.length_take];omega)
def dotsOf (l:List Dot):List Dot:=(comp (sortD (l.filter dotF))).take 2000
theorem set_w (f:FuncId) (caps:List PVal) (hf:FnT Tryz.prog f) (l:List Dot) (h:l.length≤1000000000) (hI:ICall Tryz.prog f caps (l.map dV)):PCall Tryz.prog 171 [.p (.fnv f caps)] (.p (.sl 2 ((dotsOf l).map dR) false)):=by
 refine pcall_of Tryz.func171 rfl (fun w0 F S0 M0=>?_)
 repeat' (first|refine jx3 ?_|refine jy0 ?_ ?_|exact spF|refine spQ fun hq hq'=>?_|refine spN fun hn=>?_|fail)
 refine aws_says (says_nil_box (p:=3) (o:=900) (ty:=179) (es:=2) rfl rfl (by decide) (by decide)) ?_
 refine aws_block ?_
 refine aws_range (ι:=Option MO × Nat × Nat × List Dot) [4,6,7,8,9,10,11,12] [3,4,900] (fun x=>[(3,(1,some (.box 182 [.osl 900 x.2.2.1 2 0 x.2.2.2.length]))),(4,(x.2.1,x.1)),(900,(x.2.2.1+1,some (.buf 179 2 (x.2.2.2.map dR))))])
  (fun j x=>x.2.2.2=setTo l j∧x.2.1=j∧j≤l.length) (none,0,0,[]) rfl hf hI rfl ?_ rfl rfl (fun i=>rfl) rfl ⟨rfl,rfl,Nat.zero_le _⟩ (by exact knA) ?_ ?_
 ·intro x hx
  simp only [List.mem_map] at hx
  obtain ⟨e,_,rfl⟩:=hx
  exact inferInstance
 ·rintro j x hjx ⟨c5,g,k,m⟩ γ w0 F S0 M0 lp R R' ⟨hm,hg,hj⟩
  simp only at hm hg
  have hjn:j < l.length:=by
   by_cases hlt:j < l.length
   ·exact hlt
   ·rw [List.getElem?_map,List.getElem?_eq_none (by omega)] at hjx;cases hjx
  obtain rfl:x=dV (l.getD j default):=by
   rw [List.getElem?_map,List.getElem?_eq_getElem hjn] at hjx
   have e:=Option.some.inj hjx
   rw [List.getD_eq_getElem?_getD,List.getElem?_eq_getElem hjn,← e];rfl
  have hml:m.length≤1000000000:=by have:=setTo_len (l:=l) (j:=j);rw [hm];omega
  have hst:=setTo_succ hjn
  dsimp only
  subst hg
  generalize hed:l.getD g default=ed at hst ⊢
  repeat' (first|refine jx3 ?_|refine jy0 ?_ ?_|exact spF|refine spQ fun hq hq'=>?_|refine spN fun hn=>?_|fail)
  refine ⟨rfl,rfl,?_⟩
  cases hv:dotF ed with
  | true=>
   rw [if_pos hv] at hst
   repeat' (first|refine jx3 ?_|refine jy0 ?_ ?_|exact spF|refine spQ fun hq hq'=>?_|refine spN fun hn=>?_|fail)
   refine ⟨rfl,(some (.box 179 (dL ed)),g+1,k+1,m++[ed]),_,⟨by dsimp only;rw [hst,hm],rfl,by omega⟩,.refl,Fr'.mk ?_ (by exact knA) (by exact knA)⟩
   repeat' (first|exact Agr.refl|refine Agr.appg rfl rfl ?_|refine Agr.appgn rfl ?_|refine Agr.set rfl ?_|refine Agr.put rfl ?_|refine Agr.put' ?_|refine Agr.fr ?_ (memb_sub rfl) (memb_sub rfl) rfl rfl)
  | false=>
   rw [if_neg (by rw [hv];simp),List.append_nil] at hst
   repeat' (first|refine jx3 ?_|refine jy0 ?_ ?_|exact spF|refine spQ fun hq hq'=>?_|refine spN fun hn=>?_|fail)
   refine ⟨rfl,(some (.box 179 (dL ed)),g+1,k,m),_,⟨by dsimp only;rw [hst,hm],rfl,by omega⟩,.refl,Fr'.mk ?_ (by exact knA) (by exact knA)⟩
   repeat' (first|exact Agr.refl|refine Agr.appg rfl rfl ?_|refine Agr.appgn rfl ?_|refine Agr.set rfl ?_|refine Agr.put rfl ?_|refine Agr.put' ?_|refine Agr.fr ?_ (memb_sub rfl) (memb_sub rfl) rfl rfl)
 ·rintro ⟨c5,g,k,m⟩ γ ⟨hm,hg,hj⟩
  simp only [List.length_map] at hm hg
  subst hg
  have hm':m=l.filter dotF:=by rw [hm,setTo,List.take_length]
  have hml:m.length≤1000000000:=by have:=setTo_len (l:=l) (j:=l.length);rw [hm];omega
  have hsl:(sortD m).length≤1000000000:=by rw [sortD_len];exact hml
  have hsl':=sortD_len m
  have hcl:=comp_len (sortD m)
  rw [show dotsOf l=(comp (sortD m)).take 2000 by rw [hm'];rfl]
  clear hm hm'
  dsimp only
  by_cases hc:2000 < (comp (sortD m)).length
  ·repeat' (first|refine jx3 ?_|refine jy0 ?_ ?_|exact spF|refine spQ fun hq hq'=>?_|refine spN fun hn=>?_|fail)
   exact rt1 rfl rfl (.one (finC_take rfl rfl rfl (by omega) (by congr 1;omega))) rfl
  ·repeat' (first|refine jx3 ?_|refine jy0 ?_ ?_|exact spF|refine spQ fun hq hq'=>?_|refine spN fun hn=>?_|fail)
   exact rt1 rfl rfl (.one (finC_take rfl rfl rfl (by omega) (by rw [List.take_of_length_le (by omega),List.take_of_length_le (by omega)]))) rfl
end G
end Go.Proofs.YtkgploeegbmofaaGreat.Ca
namespace Go.Proofs.YtkgploeegbmofaaGreat.Ca
open Go Go.RowKit Go.Aw Go.Aw.Cart
set_option linter.unusedVariables false
set_option linter.unusedSimpArgs false
set_option maxRecDepth 8000
set_option maxHeartbeats 4000000
abbrev cL (v:List Int) (l:List Ent) (ex:Bool):List AC:=[.p (.k .u64 (v.getD 0 default)),.p (.k .u64 (v.getD 1 default)),.p (.k .u64 (v.getD 2 default)),.p (.k .u64 (v.getD 3 default)),.p (.k .u64 (v.getD 4 default)),.p (.k .u64 (v.getD 5 default)),.p (.k .u64 (v.getD 6 default)),.p (.k .u64 (v.getD 7 default)),.p (.sl 4 (l.map eR) ex)]
abbrev cV (v:List Int) (l:List Ent) (ex:Bool):AV:=.a (cL v l ex)
theorem v8_eq:∀ {v:List Int},v.length=8→v=[v.getD 0 default,v.getD 1 default,v.getD 2 default,v.getD 3 default,v.getD 4 default,v.getD 5 default,v.getD 6 default,v.getD 7 default]
 | [a0,a1,a2,a3,a4,a5,a6,a7],_=>rfl
theorem lk_v8 {σ:St} {x:Operand} {v:List Int} (hv:v.length=8) (h:σ.look x=.a [.p (.k .u64 (v.getD 0 default)),.p (.k .u64 (v.getD 1 default)),.p (.k .u64 (v.getD 2 default)),.p (.k .u64 (v.getD 3 default)),.p (.k .u64 (v.getD 4 default)),.p (.k .u64 (v.getD 5 default)),.p (.k .u64 (v.getD 6 default)),.p (.k .u64 (v.getD 7 default))]):σ.look x=vV v:=by
 rw [h,v8_eq hv];rfl
theorem lopV {C:Ctx} {o:Oper} {σ:St} {e:Eff} {ro:Nat→Bool} (h:LOp C o σ e ro:=by
  first|exact lopY|(apply lop_call2;(focus rfl);(focus exact inferInstance);(focus first|exact lk_v8 (by assumption) rfl|exact lk_v8l rfl);(focus first|exact lk_m1 rfl|exact lk_m2 rfl|exact lk_m3 rfl|exact lk_o rfl|exact lk_a2 rfl|exact lk_a3 rfl|exact lk_a4 rfl|exact lk_a1 rfl|exact lk_a5 rfl|exact lk_a6 rfl|exact lk_a7 rfl|exact lk_a8 rfl|exact lk_a rfl);(focus exact inferInstance);(focus exact inferInstance);(focus first|exact True.intro|assumption|rfl|omega|((repeat' (first|assumption|refine And.intro ?_ ?_|omega|rfl));done)|fail);(focus rfl))|(apply lop_call1;(focus rfl);(focus exact inferInstance);(focus exact lk_cart rfl);(focus exact inferInstance);(focus exact inferInstance);(focus first|exact True.intro|assumption|rfl|omega|((repeat' (first|assumption|refine And.intro ?_ ?_|omega|rfl));done)|fail);(focus rfl))|(apply lop_call2;(focus rfl);(focus exact inferInstance);(focus exact lk_cart rfl);(focus first|exact lk_m1 rfl|exact lk_m2 rfl|exact lk_m3 rfl|exact lk_o rfl|exact lk_a2 rfl|exact lk_a3 rfl|exact lk_a4 rfl|exact lk_a1 rfl|exact lk_a5 rfl|exact lk_a6 rfl|exact lk_a7 rfl|exact lk_a8 rfl|exact lk_a rfl);(focus exact inferInstance);(focus exact inferInstance);(focus first|exact True.intro|assumption|rfl|omega|((repeat' (first|assumption|refine And.intro ?_ ?_|omega|rfl));done)|fail);(focus rfl))|fail):LOp C o σ e ro:=h
/-! dots -/
theorem dOf_w (l:List Dot) (ex:Bool) (h:l.length≤1000000000):PCall Tryz.prog 148 [.p (.sl 2 (l.map dR) ex)] (.p (.sl 2 ((G.dotsOf l).map dR) false)):=by
 refine pcall_of Tryz.func148 rfl (fun w0 F S0 M0=>?_)
 haveI:PC Tryz.prog 171 [.p (.fnv 189 [.bx [.sl 2 (l.map dR) ex] 0])] True (.p (.sl 2 ((G.dotsOf l).map dR) false)):=⟨fun _=>G.set_w _ _ inferInstance l h (iterD_w l ex h)⟩
 repeat' (first|refine jx4 ?_|refine jy0 ?_ ?_|exact spF|refine spQ fun hq hq'=>?_|refine spN fun hn=>?_|fail)
 exact rt1 rfl rfl finS_p rfl
instance {l:List Dot} {ex:Bool}:PC Tryz.prog 148 [.p (.sl 2 (l.map dR) ex)] (l.length≤1000000000) (.p (.sl 2 ((G.dotsOf l).map dR) false)):=⟨dOf_w l ex⟩
def ofF (l:List Ent) (item:Int):List Ent:=l.filter fun e=>decide (e.1=item)
theorem vEqV (v w:List Int) (hv:v.length=8) (hw:w.length=8):vEqB [.int .u64 (v.getD 0 default),.int .u64 (v.getD 1 default),.int .u64 (v.getD 2 default),.int .u64 (v.getD 3 default),.int .u64 (v.getD 4 default),.int .u64 (v.getD 5 default),.int .u64 (v.getD 6 default),.int .u64 (v.getD 7 default)] [.int .u64 (w.getD 0 default),.int .u64 (w.getD 1 default),.int .u64 (w.getD 2 default),.int .u64 (w.getD 3 default),.int .u64 (w.getD 4 default),.int .u64 (w.getD 5 default),.int .u64 (w.getD 6 default),.int .u64 (w.getD 7 default)]=decide (v=w):=by
 rw [Bool.eq_iff_iff]
 match v,hv,w,hw with
 | [a0,a1,a2,a3,a4,a5,a6,a7],_,[b0,b1,b2,b3,b4,b5,b6,b7],_=>simp [vEqB,vEq]
def sameF (v w:List Int) (l m:List Ent):Bool:=decide (v=w)&&decide (l=m)
theorem same_w (v w:List Int) (l m:List Ent) (ex ey:Bool) (hv:v.length=8) (hw:w.length=8) (h:l.length≤1000000000):PCall Tryz.prog 81 [cV v l ex,cV w m ey] (.p (.b (sameF v w l m))):=by
 refine pcall_of Tryz.func81 rfl (fun w0 F S0 M0=>?_)
 unfold sameF
 have e:=vEqV v w hv hw
 cases hh:decide (v=w) with
 | true=>
  rw [hh] at e
  repeat' (first|refine jx4 ?_|refine jy0 ?_ ?_|exact spF|refine spQ fun hq hq'=>?_|refine spN fun hn=>?_|fail)
  exact rt1 rfl rfl finS_p rfl
 | false=>
  rw [hh] at e
  repeat' (first|refine jx4 ?_|refine jy0 ?_ ?_|exact spF|refine spQ fun hq hq'=>?_|refine spN fun hn=>?_|fail)
  exact rt1 rfl rfl finS_p rfl
theorem lop_ap_pair {C:Ctx} {o:Oper} {σ:St} {T e:TypeId} {x y:Operand} {sz by_ es be:Nat} {ke:TK} {l:List Dot} {z:List Value} {ey:Bool} {ob g n len:Nat} {a b:Int} (ho:o.op=.call ⟨.builtin .append,#[x,y],#[T,T]⟩) (hT:TI C.P T (.slice e) sz by_) (he:TI C.P e ke es be) (hz:TZ C.P e z) (hx:σ.look x=.o (.osl ob g es 0 len)) (hm:σ.mem ob=(n,some (.buf e es (l.map dR)))) (hn:n=g+1) (hlr:len=l.length)
  (hy:σ.look y=.p (.sl es [[.i a,.k .u64 b]] ey)) (hzl:z.length=es) (h63:l.length+1≤maxLen) (hby:(l.length+1) * be≤140737488355328) (hd:dOk C o.dst=true) :
  LOp C o σ ⟨.o (.osl ob n es 0 (l++[(a,b)]).length),[(ob,(n+1,some (.buf e es ((l++[(a,b)]).map dR))))]⟩ (fun q=>q == ob):=lop_ap_o1 (f:=dR) (v:=(a,b)) ho hT he hz hx hm hn hlr hy rfl hzl h63 hby hd
namespace J
theorem lopC {C:Ctx} {o:Oper} {σ:St} {e:Eff} {ro:Nat→Bool} (h:LOp C o σ e ro:=by
  first|(apply G.lop_bst2;(focus rfl);(focus exact inferInstance);(focus exact inferInstance);(focus exact inferInstance);(focus rfl);(focus rfl);(focus rfl))|(apply lop_ap_pair;(focus rfl);(focus exact inferInstance);(focus exact inferInstance);(focus exact inferInstance);(focus rfl);(focus rfl);(focus rfl);(focus rfl);(focus rfl);(focus rfl);(focus first|(simp only [maxLen,List.length_append,List.length_cons,List.length_nil,List.length_take,List.length_drop,List.length_map];omega)|omega);(focus first|(simp only [maxLen,List.length_append,List.length_cons,List.length_nil,List.length_take,List.length_drop,List.length_map];omega)|omega);(focus rfl))|exact lopV|fail):LOp C o σ e ro:=h
section steps
variable {C:Ctx} {ops:Array Oper} {o:Oper} {rest:List Oper} {K:St→Prop} {σ:St} {e:Eff} {ro:Nat→Bool} {W:List (Nat × Nat)} {i:Nat}
theorem rnC {d:Nat} (hg:Guard ops σ o true:=by first|exact gd_n rfl rfl|exact gd_t rfl rfl rfl rfl|exact gd_t rfl rfl rfl (by assumption)) (hd:o.dst=some d:=by rfl) (h:LOp C o σ e ro:=by exact lopC) (hk:RunN C ops rest K (e.app (some d) σ)):RunN C ops (o::rest) K σ:=rn_any hg hd h hk
theorem rkC {d:Nat} (hg:Guard ops σ o true:=by first|exact gd_n rfl rfl|exact gd_t rfl rfl rfl rfl|exact gd_t rfl rfl rfl (by assumption)) (hd':o.dst=some d:=by rfl) (hd:dOk C o.dst=true:=by rfl) (h:LOp C o σ e ro:=by exact lopC) (hro:∀ x,ro x=true→okObj ops W i x=true:=by first|exact fun _=>ro_none|exact ro_one rfl|exact ro_one (by kernel_rfl)|exact ro_kIn (by decide)) (hob:∀ p∈e.obj,(i,p.1)∈W:=by first|exact ob_none|exact ob_one (by decide)|decide) (hk:RunK C ops W (i+1) rest K (e.app (some d) σ)):RunK C ops W i (o::rest) K σ:=rk_wr hg hd' hd h hro hob hk
end steps
end J
open J
def QB (e:Ent):Prop := -9223372036854775808≤e.2.2.2∧e.2.2.2≤9223372036854775807
theorem ofF_len (l:List Ent) (item:Int):(ofF l item).length≤l.length:=List.length_filter_le _ _
def liveF (l:List Ent):List Dot:=G.dotsOf (l.map dotE)
theorem live_w (v:List Int) (l:List Ent) (ex:Bool) (h:l.length≤1000000):PCall Tryz.prog 107 [cV v l ex] (.p (.sl 2 ((liveF l).map dR) false)):=by
 refine pcall_of Tryz.func107 rfl (fun w0 F S0 M0=>?_)
 repeat' (first|refine jx5 ?_|refine jy0 ?_ ?_|exact spF|refine spQ fun hq hq'=>?_|refine spN fun hn=>?_|fail)
 refine aws_says (says_nil (t:=3) (o:=901) (ty:=179) (es:=2) rfl rfl (by decide)) ?_
 refine aws_loopS [3,5,9,10,11,12,13,14,15,16,17,18] [901,5] (fun (x:Nat × List Dot × Option MO)=>[(9,.p (.i x.1)),(3,.o (.osl 901 x.1 2 0 x.2.1.length))]) (fun x=>[(901,(x.1+1,some (.buf 179 2 (x.2.1.map dR)))),(5,(x.1,x.2.2))])
  (fun x=>x.1≤l.length∧x.2.1=(l.take x.1).map dotE) (fun x=>l.length - x.1) (0,[],none) ⟨Nat.zero_le _,rfl⟩ (by exact knA) (by exact knA) ?_
 rintro ⟨i,m,c5⟩ β γ ⟨hi,hm⟩
 simp only at hi hm
 have hml:m.length=i:=by rw [hm,List.length_map,List.length_take];omega
 dsimp only
 by_cases hil:i < l.length
 ·have hd:decide ((i:Int) < (l.length:Int))=true:=decide_eq_true (by omega)
  as_aux_lemma=>
   repeat' (first|refine jx5 ?_|refine jy0 ?_ ?_|exact spF|refine spQ fun hq hq'=>?_|refine spN fun hn=>?_|fail)
   refine ⟨(i+1,m++[(_,_)],some (.box 175 (eL (l.getD (i:Int).toNat default)))),_,by dsimp only;omega,⟨by dsimp only;omega,?_⟩,.refl,by exact frA⟩
   dsimp only
   rw [hm,List.take_succ_eq_append_getElem hil,List.map_append,Int.toNat_natCast,List.getD_eq_getElem?_getD,List.getElem?_eq_getElem hil];rfl
 ·have hd:decide ((i:Int) < (l.length:Int))=false:=decide_eq_false (by omega)
  have hm':m=l.map dotE:=by rw [hm,List.take_of_length_le (by omega)]
  have hml':m.length≤1000000000:=by omega
  rw [show liveF l=G.dotsOf m by rw [hm'];rfl]
  repeat' (first|refine jx5 ?_|refine jy0 ?_ ?_|exact spF|refine spQ fun hq hq'=>?_|refine spN fun hn=>?_|fail)
  refine rn_says (says_frz (t:=19) (o:=901) rfl rfl rfl (by simp)) rfl ?_
  as_aux_lemma=>
   repeat' (first|refine jx5 ?_|refine jy0 ?_ ?_|exact spF|refine spQ fun hq hq'=>?_|refine spN fun hn=>?_|fail)
   exact rt1 rfl rfl finS_p rfl
instance {v:List Int} {l:List Ent} {ex:Bool}:PC Tryz.prog 107 [cV v l ex] (l.length≤1000000) (.p (.sl 2 ((liveF l).map dR) false)):=⟨live_w v l ex⟩
end Go.Proofs.YtkgploeegbmofaaGreat.Ca
