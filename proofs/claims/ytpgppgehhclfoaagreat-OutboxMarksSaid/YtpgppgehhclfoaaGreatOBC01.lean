/- outbox: what waits; messages split by a mark -/
import Derived.Test.YtpgppgehhclfoaaGreatOBB65
import Derived.Test.YtpgppgehhclfoaaGreatOBB79
namespace Go.Aw
open Go Go.RowKit
set_option linter.unusedVariables false
set_option linter.unusedSimpArgs false
theorem bfill2 {P:Nat→Option (Nat × Nat)} {a b:Nat} {z M N:List AC} (h0:P 0=some (0,a)) (h1:P 1=some (a,b)) (hz:z.length=a+b) (hM:M.length=a) (hN:N.length=b):bfill P z [(0,M),(1,N)]=some (M++N):=by
 rw [bfill,h0]
 dsimp only
 rw [if_pos ⟨hM,by omega⟩,bfill,h1]
 dsimp only
 have hl:(z.take 0++M++z.drop (0+a)).length=a+b:=by simp [hM];omega
 rw [if_pos ⟨hN,by rw [hl];omega⟩,bfill]
 congr 1
 rw [List.take_zero,List.nil_append,Nat.zero_add,List.take_left' hM,List.drop_of_length_le (by simp [hM];omega),List.append_nil]
section
variable {C:Ctx} {o:Oper} {σ:St} {T:TypeId} {x y:Operand} {k:TK} {sz by_ ob g n off:Nat} {ty:TypeId}
theorem lop_ldp {cs ds:List AC} {L:Nat} (ho:o.op=.load T x) (hT:TI C.P T k sz by_) (hx:σ.look x=.o (.ptr ob g off)) (hm:σ.mem ob=(n,some (.box ty cs))) (hn:n=g+1) (hk:k.agg=true) (hl:cs.length=L) (hL:off+sz≤L) (hc:(cs.drop off).take sz=ds) (hd:dOk C o.dst=true):LOp C o σ ⟨.a ds,[]⟩ (fun y=>y == ob):=by
 have:=lop_load_box (o:=o) ho hx hm hn hk (by omega) hd
 rwa [hc] at this
theorem lop_lda {row:List PVal} {cs:List AC} (ho:o.op=.load T x) (hT:TI C.P T k sz by_) (hx:σ.look x=.p (.at_ row)) (hk:k.agg=true) (hz:0 < sz) (hl:sz≤row.length) (hc:(row.take sz).map .p=cs) (hd:dOk C o.dst=true):LOp C o σ ⟨.a cs,[]⟩ (fun _=>false):=by
 subst hc
 exact lop_load_at (o:=o) ho hx hk hz hl hd
theorem lop_sta {cs ds:List AC} {L:Nat} (ho:o.op=.store T x y) (hT:TI C.P T k sz by_) (hdst:o.dst=none) (hx:σ.look x=.o (.ptr ob g 0)) (hy:σ.look y=.a ds) (hm:σ.mem ob=(n,some (.box ty cs))) (hn:n=g+1) (hs:sz=L) (hl:cs.length=L) (hl2:ds.length=L):LOp C o σ ⟨.un,[(ob,(n,some (.box ty ds)))]⟩ (fun z=>z == ob):=
 lop_store_all (o:=o) ho hdst hx hy hm hn (hl.trans hs.symm) (hl2.trans hs.symm)
theorem lop_bld2 {x0 x1:Operand} {M N:List AC} {s1:SV} {a b:Nat} {fs:List (Nat × Nat)} {z:List Value} (ho:o.op=.build T #[(0,x0),(1,x1)]) (hF:TF C.P T fs) (hz:TZ C.P T z) (g0:σ.look x0=.a M) (g1:σ.look x1=.s s1) (hN:s1.cells=N) (h0:fs[0]?=some (0,a)) (h1:fs[1]?=some (a,b)) (hzl:z.length=a+b) (hM:M.length=a) (hNl:N.length=b) (hz1:z.all (·.oneCell')=true) (hd:dOk C o.dst=true):LOp C o σ ⟨.a (M++N),[]⟩ (fun _=>false):=
 lop_buildx (ps:=[(0,M),(1,N)]) ho hF hz (.cons ⟨rfl,_,g0,rfl⟩ (.cons ⟨rfl,_,g1,hN⟩ .nil)) hz1 (bfill2 h0 h1 (by rw [List.length_map];exact hzl) hM hNl) hd
theorem lop_bsr {sz':Nat} {e:TypeId} {ke:TK} {be es:Nat} {z:List Value} {x0:Operand} {cs:List AC} {row:List PVal} (ho:o.op=.buildSlice T 1 #[(0,x0)]) (hT:TI C.P T (.slice e) sz' by_) (he:TI C.P e ke es be) (hz:TZ C.P e z) (h0:σ.look x0=.a cs) (hc:cs=row.map .p) (hl:row.length=es) (hp:0 < es) (hs:es≤2 ^ 24) (hd:dOk C o.dst=true):LOp C o σ ⟨.p (.sl es [row] true),[]⟩ (fun _=>false):=
 lop_buildSlice (ps:=[(0,row)]) ho (.cons ⟨rfl,hl,_,h0,hc⟩ .nil) rfl hp (by omega) hd
end
end Go.Aw
namespace Go.Proofs.YtpgppgehhclfoaaGreat.Wi
open Go Go.RowKit Go.Aw Go.Aw.Cart Go.Aw.Tree Go.Proofs.YtpgppgehhclfoaaGreat.Ca Go.Proofs.YtpgppgehhclfoaaGreat.Rg
set_option linter.unusedVariables false
set_option linter.unusedSimpArgs false
set_option maxRecDepth 8000
set_option maxHeartbeats 4000000
abbrev Hm:=Msg × Int
def hmR (h:Hm):List PVal:=mR h.1++[.i h.2]
theorem mR_len {m:Msg} (h:m.dig.length=32):(mR m).length=40:=by simp [h]
theorem mL_len' {m:Msg} (h:m.dig.length=32):(mL m).length=40:=mlen (by rw [List.length_map];exact h)
theorem hmR_len {h:Hm} (k:h.1.dig.length=32):(hmR h).length=41:=by
 unfold hmR
 rw [List.length_append,show (mR h.1).length=40 from mR_len k];rfl
theorem hm_map (h:Hm):(hmR h).map AC.p=mL h.1++[.p (.i h.2)]:=by
 unfold hmR
 rw [List.map_append,← mL_eq];rfl
theorem hm_0 {h:Hm} (k:h.1.dig.length=32):(((hmR h).map AC.p).drop 0).take 40=mL h.1:=by
 rw [hm_map,List.drop_zero,List.take_left' (mL_len' k)]
theorem hm_40 {h:Hm} (k:h.1.dig.length=32):((hmR h).map AC.p)[0+40]?=some (.p (.i h.2)):=by
 rw [hm_map,List.getElem?_append_right (by rw [mL_len' k];omega),mL_len' k];rfl
theorem hm_t {h:Hm} (k:h.1.dig.length=32):((hmR h).take 41).map AC.p=(hmR h).map AC.p:=by rw [List.take_of_length_le (Nat.le_of_eq (hmR_len k))]
theorem m_t {m:Msg} (k:m.dig.length=32):((mR m).take 40).map AC.p=mL m:=by rw [List.take_of_length_le (Nat.le_of_eq (mR_len k)),mL_eq]
theorem hm_mk (m:Msg) (n:Int):mL m++[.p (.i n)]=(hmR (m,n)).map AC.p:=(hm_map (m,n)).symm
def goneF (l:List Hm) (s:Int):List Msg:=(l.filter fun h=>decide (h.2≤s)).map (·.1)
def waitF (l:List Hm) (s:Int):List Hm:=l.filter fun h=>!decide (h.2≤s)
theorem gone_take {l:List Hm} {i:Nat} {s:Int} (h:i < l.length):goneF (l.take (i+1)) s=goneF (l.take i) s++if (l.getD i default).2≤s then [(l.getD i default).1] else []:=by
 unfold goneF
 rw [List.take_succ_eq_append_getElem h,List.filter_append,List.map_append,List.getD_eq_getElem?_getD,List.getElem?_eq_getElem h]
 by_cases q:(l[i]).2≤s<;>simp [q]
theorem wait_take {l:List Hm} {i:Nat} {s:Int} (h:i < l.length):waitF (l.take (i+1)) s=waitF (l.take i) s++if (l.getD i default).2≤s then [] else [l.getD i default]:=by
 unfold waitF
 rw [List.take_succ_eq_append_getElem h,List.filter_append,List.getD_eq_getElem?_getD,List.getElem?_eq_getElem h]
 by_cases q:(l[i]).2≤s<;>simp [q]
namespace O1
theorem lopC {C:Ctx} {o:Oper} {σ:St} {e:Eff} {ro:Nat→Bool} (h:LOp C o σ e ro:=by
  first
   | exact lop_load_all rfl rfl rfl rfl rfl (by rw [List.length_map];exact hmR_len (by assumption)) rfl
   | (apply gLoad;(focus rfl);first|(apply lop_ldp (L:=41);(focus rfl);(focus exact inferInstance);(focus rfl);(focus rfl);(focus rfl);(focus rfl);(focus rw [List.length_map];exact hmR_len (by assumption));(focus decide);(focus exact hm_0 (by assumption));(focus rfl))|(apply lop_lda;(focus rfl);(focus exact inferInstance);(focus rfl);(focus rfl);(focus decide);(focus exact Nat.le_of_eq (hmR_len (by assumption)).symm);(focus exact hm_t (by assumption));(focus rfl))|(apply lop_lda;(focus rfl);(focus exact inferInstance);(focus rfl);(focus rfl);(focus decide);(focus exact Nat.le_of_eq (mR_len (by assumption)).symm);(focus exact m_t (by assumption));(focus rfl))|(apply lop_ldm;(focus rfl);(focus exact inferInstance);(focus rfl);(focus rfl);(focus rfl);(focus rfl);(focus rfl);(focus exact hm_40 (by assumption));(focus rfl)))
   | (apply lop_bsr (row:=hmR _);(focus rfl);(focus exact inferInstance);(focus exact inferInstance);(focus exact inferInstance);(focus rfl);(focus rfl);(focus exact hmR_len (by assumption));(focus decide);(focus decide);(focus rfl))
   | (apply lop_bsr (row:=mR _);(focus rfl);(focus exact inferInstance);(focus exact inferInstance);(focus exact inferInstance);(focus rfl);(focus exact mL_eq _);(focus exact mR_len (by assumption));(focus decide);(focus decide);(focus rfl))
   | exact T4.lopC
   | fail):LOp C o σ e ro:=h
theorem stoH {C:Ctx} {o:Oper} {σ:St} {e:Eff} {ro:Nat→Bool} (h:LOp C o σ e ro:=by
  first|(apply lop_sta (L:=41);(focus rfl);(focus exact inferInstance);(focus rfl);(focus rfl);(focus rfl);(focus rfl);(focus rfl);(focus rfl);(focus first|rfl|(rw [List.length_map];exact hmR_len (by assumption)));(focus rw [List.length_map];exact hmR_len (by assumption)))|exact stoM|fail):LOp C o σ e ro:=h
section steps
variable {C:Ctx} {ops:Array Oper} {o:Oper} {rest:List Oper} {K:St→Prop} {σ:St} {e:Eff} {ro:Nat→Bool} {W:List (Nat × Nat)} {i:Nat}
theorem rnC {d:Nat} (hg:Guard ops σ o true:=by first|exact gd_n rfl rfl|exact gd_t rfl rfl rfl rfl|exact gd_t rfl rfl rfl (by assumption)) (hd:o.dst=some d:=by rfl) (h:LOp C o σ e ro:=by exact lopC) (hk:RunN C ops rest K (e.app (some d) σ)):RunN C ops (o::rest) K σ:=rn_any hg hd h hk
theorem rkC {d:Nat} (hg:Guard ops σ o true:=by first|exact gd_n rfl rfl|exact gd_t rfl rfl rfl rfl|exact gd_t rfl rfl rfl (by assumption)) (hd':o.dst=some d:=by rfl) (hd:dOk C o.dst=true:=by rfl) (h:LOp C o σ e ro:=by exact lopC) (hro:∀ x,ro x=true→okObj ops W i x=true:=by first|exact fun _=>ro_none|exact ro_one rfl|exact ro_k1 rfl|exact ro_one (by kernel_rfl)|exact ro_k1 (by kernel_rfl)|exact ro_kIn (by decide)) (hob:∀ p∈e.obj,(i,p.1)∈W:=by first|exact ob_none|exact ob_one (by decide)|decide) (hk:RunK C ops W (i+1) rest K (e.app (some d) σ)):RunK C ops W i (o::rest) K σ:=rk_wr hg hd' hd h hro hob hk
end steps
section steps
variable {C:Ctx} {ops:Array Oper} {o:Oper} {rest:List Oper} {K:St→Prop} {σ:St} {e:Eff} {ro:Nat→Bool} {W:List (Nat × Nat)} {i:Nat}
theorem rnSH (hg:Guard ops σ o true:=by first|exact gd_n rfl rfl|exact gd_t rfl rfl rfl rfl|exact gd_t rfl rfl rfl (by assumption)) (hd:o.dst=none:=by rfl) (h:LOp C o σ e ro:=by exact stoH) (hk:RunN C ops rest K (e.app none σ)):RunN C ops (o::rest) K σ:=rn_sto hg hd h hk
end steps
end O1
open O1
theorem splitM_o (l:List Hm) (ex:Bool) (s:Int) (hl:l.length≤1000000) (hd:∀ h∈l,h.1.dig.length=32):OCall Tryz.prog 96 [.p (.sl 41 (l.map hmR) ex),.p (.i s)] (fun _=>(0,none)) (.tup [.one (.p (.sl 40 ((goneF l s).map mR) false)),.one (.osl 1000 (waitF l s).length 41 0 (waitF l s).length)]) (memL [(1000,((waitF l s).length+1,some (.buf 166 41 ((waitF l s).map hmR))))]):=by
 refine ocall_ofF 1000 Tryz.func96 rfl (fun w0 F S0 M0=>?_)
 repeat' (first|refine jx17 ?_|refine jy0 ?_ ?_|exact spF|refine spQ fun hq hq'=>?_|refine spN fun hn=>?_|fail)
 refine aws_says (says_nil (t:=6) (o:=901) (es:=40) (ty:=28) rfl rfl (by decide)) ?_
 refine aws_says (says_nil (t:=7) (o:=1000) (es:=41) (ty:=166) rfl rfl (by decide)) ?_
 refine aws_loopS [6,7,9,12,13,14,15,16,17,18,19,20,21,22,23,24,25,26,27,28,29] [9,901,1000] (fun (x:Nat × Nat × Nat × List Msg × List Hm × (Nat × Option MO))=>[(12,.p (.i x.1)),(6,.o (.osl 901 x.2.1 40 0 x.2.2.2.1.length)),(7,.o (.osl 1000 x.2.2.1 41 0 x.2.2.2.2.1.length))]) (fun x=>[(9,x.2.2.2.2.2),(901,(x.2.1+1,some (.buf 28 40 (x.2.2.2.1.map mR)))),(1000,(x.2.2.1+1,some (.buf 166 41 (x.2.2.2.2.1.map hmR))))]) (fun x=>x.1≤l.length∧x.2.2.2.1=goneF (l.take x.1) s∧x.2.2.2.2.1=waitF (l.take x.1) s∧x.2.2.1=x.2.2.2.2.1.length) (fun x=>l.length - x.1) (0,0,0,[],[],(0,none)) ⟨Nat.zero_le _,rfl,rfl,rfl⟩ (by exact knA) (by exact knA) ?_
 rintro ⟨i,g,v,G,V,m9⟩ β γ ⟨hi,hG,hV,hv⟩
 dsimp only at hi hG hV hv ⊢
 have hGl:G.length≤1000000:=by
  rw [hG];unfold goneF;rw [List.length_map]
  have:=List.length_filter_le (fun h:Hm=>decide (h.2≤s)) (l.take i)
  rw [List.length_take] at this;omega
 have hVl:V.length≤1000000:=by
  rw [hV];unfold waitF
  have:=List.length_filter_le (fun h:Hm=>!decide (h.2≤s)) (l.take i)
  rw [List.length_take] at this;omega
 by_cases hil:i < l.length
 ·have d1:decide ((i:Int) < (l.length:Int))=true:=decide_eq_true (by omega)
  have ei:(i:Int).toNat=i:=Int.toNat_natCast i
  have hg:=gone_take (s:=s) hil
  have hw:=wait_take (s:=s) hil
  have hx:(l.getD (i:Int).toNat default).1.dig.length=32:=hd _ (by rw [ei,getD_at hil];exact List.getElem_mem _)
  rw [← hG] at hg
  rw [← hV] at hw
  rw [show l.getD i default=l.getD (i:Int).toNat default by rw [ei]] at hg hw
  clear hG hV
  by_cases q:(l.getD (i:Int).toNat default).2≤s
  ·have d2:decide ((l.getD (i:Int).toNat default).2≤s)=true:=decide_eq_true q
   rw [if_pos q] at hg hw
   rw [List.append_nil] at hw
   as_aux_lemma=>
    repeat' (first|refine jx17 ?_|refine jy0 ?_ ?_|exact spF|refine spQ fun hq hq'=>?_|refine spN fun hn=>?_|fail)
    exact ⟨(i+1,g+1,v,G++[(l.getD (i:Int).toNat default).1],V,_),_,by dsimp only;omega,⟨by dsimp only;omega,hg.symm,hw.symm,hv⟩,.refl,by exact frA⟩
  ·have d2:decide ((l.getD (i:Int).toNat default).2≤s)=false:=decide_eq_false q
   rw [if_neg q] at hg hw
   rw [List.append_nil] at hg
   as_aux_lemma=>
    repeat' (first|refine jx17 ?_|refine jy0 ?_ ?_|exact spF|refine spQ fun hq hq'=>?_|refine spN fun hn=>?_|fail)
    exact ⟨(i+1,g,v+1,G,V++[l.getD (i:Int).toNat default],_),_,by dsimp only;omega,⟨by dsimp only;omega,hg.symm,hw.symm,by dsimp only;rw [List.length_append,List.length_singleton,hv]⟩,.refl,by exact frA⟩
 ·have d1:decide ((i:Int) < (l.length:Int))=false:=decide_eq_false (by omega)
  obtain rfl:i=l.length:=by omega
  rw [List.take_length] at hG hV
  rw [← hG,← hV]
  subst hv
  clear hG hV
  as_aux_lemma=>
   repeat' (first|refine jx17 ?_|refine jy0 ?_ ?_|exact spF|refine spQ fun hq hq'=>?_|refine spN fun hn=>?_|fail)
   exact RetO.mk (ot2 rfl rfl (.one (finC_map rfl rfl rfl rfl)) rfl (.one (.kosl rfl)) rfl) ⟨.buf,trivial⟩
end Go.Proofs.YtpgppgehhclfoaaGreat.Wi
namespace Go.Aw
open Go Go.RowKit
set_option linter.unusedVariables false
set_option linter.unusedSimpArgs false
inductive Cl where
  | p (x:PVal)
  | b (o n ty es:Nat) (rows:List (List PVal))
inductive Pc where
  | p (x:PVal)
  | b (ty es:Nat) (rows:List (List PVal))
def Cl.pc:Cl→Pc
  | .p x=>.p x
  | .b _ _ ty es rows=>.b ty es rows
def Cl.ac:Cl→AC
  | .p x=>.p x
  | .b o n _ es rows=>.osl o n es 0 rows.length
def Cl.ob:Cl→Option Nat
  | .p _=>none
  | .b o _ _ _ _=>some o
def Pc.holds (X:Wd) (v:Value) (f:List Nat):Pc→Prop
  | .p x=>x.holds X v∧f=[]
  | .b ty es rows=>∃ (m:Option Nat) (c:Nat),v=.slice (m.map fun b=>⟨b,0,none⟩) rows.length c∧(MO.buf ty es rows).holds Mu.none X (m,c) f
structure PkN (ty:TypeId) (cs:List Pc) (X:Wd) (b:Nat) (fp:List Nat) (vs:List Value) (fs:List (List Nat)):Prop where
  heap:X.w.heap[b]?=some (.cells vs.toArray ty (0,0))
  fp:fp=b::fs.flatten
  vl:vs.length=cs.length
  fl:fs.length=cs.length
  get:∀ (i:Nat) c v f,cs[i]?=some c→vs[i]?=some v→fs[i]?=some f→c.holds X v f
  nb:∀ f∈fs,b ∉ f
  ap:∀ (i j:Nat) f g k,i≠j→fs[i]?=some f→fs[j]?=some g→k∈f→k∈g→False
def pkN (ty:TypeId) (cs:List Pc):AObj where
  holds X b fp:=∃ vs fs,PkN ty cs X b fp vs fs
  mono:=by
    rintro x y b fp hle hf ⟨vs,fs,h⟩
    refine ⟨vs,fs,⟨(hf b (by rw [h.fp];simp)).trans h.heap,h.fp,h.vl,h.fl,fun i c v f h1 h2 h3=>?_,h.nb,h.ap⟩⟩
    have k:=h.get i c v f h1 h2 h3
    cases c with
    | p p=>exact ⟨p.mono hle k.1,k.2⟩
    | b ty es rows=>
      obtain ⟨m,c,e,k⟩:=k
      exact ⟨m,c,e,k.mono (Mu.le.refl _) hle fun z hz=>hf z (by rw [h.fp];exact List.mem_cons_of_mem _ (List.mem_flatten.2 ⟨f,List.mem_of_getElem? h3,hz⟩))⟩
def clIx:List Cl→Nat→Option Nat
  | [],_=>none
  | c::l,x=>if c.ob=some x then some 0 else (clIx l x).map (· + 1)
theorem clIx_some:∀ {l:List Cl} {x i:Nat},clIx l x=some i→∃ c,l[i]?=some c∧c.ob=some x
  | [],x,i,h=>by cases h
  | c::l,x,i,h=>by
    unfold clIx at h
    split at h
    · rename_i q
      obtain rfl:=Option.some.inj h
      exact ⟨c,rfl,q⟩
    · rw [Option.map_eq_some_iff] at h
      obtain ⟨j,h,rfl⟩:=h
      obtain ⟨d,h1,h2⟩:=clIx_some h
      exact ⟨d,by simpa using h1,h2⟩
theorem clIx_none:∀ {l:List Cl} {x:Nat},clIx l x=none→∀ c∈l,c.ob≠some x
  | [],x,h=>fun c hc=>by cases hc
  | c::l,x,h=>by
    unfold clIx at h
    split at h
    · cases h
    · rename_i q
      rw [Option.map_eq_none_iff] at h
      intro d hd
      rcases List.mem_cons.1 hd with rfl|k
      · exact q
      · exact clIx_none h d k
def ClNd (l:List Cl):Prop:=∀ (i j:Nat) c d o,l[i]?=some c→l[j]?=some d→c.ob=some o→d.ob=some o→i=j
theorem clIx_at {l:List Cl} (h:ClNd l) {i:Nat} {c:Cl} {o:Nat} (hc:l[i]?=some c) (ho:c.ob=some o):clIx l o=some i:=by
  cases k:clIx l o with
  | none=>exact absurd ho (clIx_none k c (List.mem_of_getElem? hc))
  | some j=>
    obtain ⟨d,h1,h2⟩:=clIx_some k
    rw [h i j c d o hc h1 ho h2]
theorem ob_b {c:Cl} {o:Nat} (h:c.ob=some o):∃ n ty es rows,c=.b o n ty es rows:=by
  cases c with
  | p x=>cases h
  | b o' n ty es rows=>obtain rfl:=Option.some.inj h;exact ⟨n,ty,es,rows,rfl⟩
theorem says_packN {C:Ctx} {σ:St} {p np ty:Nat} {cells:List Cl} (hp:σ.mem p=(np,some (.box ty (cells.map Cl.ac)))) (hm:∀ o n ty es rows,Cl.b o n ty es rows∈cells→σ.mem o=(n+1,some (.buf ty es rows))∧o≠p) (hnd:ClNd cells) :
    Says C σ ⟨σ.env,fun x=>if x=p then (np,some (.abs (pkN ty (cells.map Cl.pc)))) else match clIx cells x with|some _=>((σ.mem x).1,none)|none=>σ.mem x⟩:=by
  rintro a w ⟨G,h⟩
  obtain ⟨gp,mp,e1,e2,b,arr,e3,e4,e5,e6⟩:=h.mem p _ _ hp
  obtain ⟨φ',hφ⟩:∃ φ':Nat→List Nat,∀ x,φ' x=if x=p then b::(cells.map fun c=>match c.ob with|none=>[]|some o=>G.φ o).flatten else match clIx cells x with|some _=>[]|none=>G.φ x:=⟨_,fun _=>rfl⟩
  have hfp:∀ {x k},k∈φ' x→(x=p∧(k∈G.φ p∨∃ o,clIx cells o≠none∧k∈G.φ o))∨(x≠p∧clIx cells x=none∧k∈G.φ x):=fun {x k} hk=>by
    rw [hφ] at hk
    by_cases hx:x=p
    · rw [if_pos hx] at hk
      refine .inl ⟨hx,?_⟩
      rcases List.mem_cons.1 hk with rfl|hk
      · left;rw [e4];simp
      · obtain ⟨l,hl,hkl⟩:=List.mem_flatten.1 hk
        obtain ⟨c,hc,rfl⟩:=List.mem_map.1 hl
        cases ho:c.ob with
        | none=>rw [ho] at hkl;cases hkl
        | some o=>
          rw [ho] at hkl
          exact .inr ⟨o,fun q=>clIx_none q c hc ho,hkl⟩
    · rw [if_neg hx] at hk
      cases q:clIx cells x with
      | none=>rw [q] at hk;exact .inr ⟨hx,rfl,hk⟩
      | some i=>rw [q] at hk;cases hk
  have hne:∀ {o},clIx cells o≠none→o≠p:=fun {o} q=>by
    cases k:clIx cells o with
    | none=>exact absurd k q
    | some i=>
      obtain ⟨c,h1,h2⟩:=clIx_some k
      obtain ⟨n,ty',es,rows,rfl⟩:=ob_b h2
      exact (hm _ _ _ _ _ (List.mem_of_getElem? h1)).2
  refine ⟨⟨G.μ,G.S,φ'⟩,?_⟩
  exact {
    size:=h.size
    defers:=fun d hd=>by
      obtain ⟨b',rfl,h1,h2,h3,h4,h5⟩:=h.defers d hd
      refine ⟨b',rfl,h1,h2,h3,h4,fun x hx=>?_⟩
      rcases hfp hx with ⟨_,k | ⟨o,_,k⟩⟩ | ⟨_,_,k⟩
      · exact h5 _ k
      · exact h5 _ k
      · exact h5 _ k
    dnod:=h.dnod
    mle:=h.mle
    env:=h.env
    gens:=fun x=>by
      have:=h.gens x
      dsimp only
      by_cases hx:x=p
      · subst hx;rw [if_pos rfl];rw [hp] at this;exact this
      · rw [if_neg hx]
        cases clIx cells x<;>exact this
    mem:=fun x n mo hx=>by
      dsimp only at hx ⊢
      by_cases hxp:x=p
      · subst hxp
        rw [if_pos rfl] at hx
        obtain ⟨e0,hx'⟩:=Prod.mk.inj hx
        subst e0
        obtain rfl:=Option.some.inj hx'
        refine ⟨gp,mp,e1,e2,b,e3,arr,cells.map fun c=>match c.ob with|none=>[]|some o=>G.φ o,?_⟩
        refine ⟨e5,by rw [hφ,if_pos rfl],by rw [← e6.1];simp,by simp,fun i c' v f h1 h2 h3=>?_,fun f hf hb=>?_,fun i j f g k hij h1 h2 k1 k2=>?_⟩
        · rw [List.getElem?_map,Option.map_eq_some_iff] at h1 h3
          obtain ⟨c,hc,rfl⟩:=h1
          obtain ⟨c2,hc2,rfl⟩:=h3
          rw [hc] at hc2
          obtain rfl:=Option.some.inj hc2
          have hv:=e6.2 i c.ac v (by rw [List.getElem?_map,hc];rfl) h2
          cases c with
          | p y=>exact ⟨hv,rfl⟩
          | b o n ty' es rows=>
            obtain ⟨m,cp,r1,r2,r3⟩:=hv
            have hmo:=(hm o n ty' es rows (List.mem_of_getElem? hc)).1
            obtain ⟨g,m2,k1,k2,k3⟩:=h.mem o _ _ hmo
            obtain rfl:n=g:=by omega
            rw [r1] at k2
            obtain rfl:=Option.some.inj k2
            simp only [Nat.zero_mul,Nat.sub_zero] at r3
            exact ⟨m,cp,r3,k3⟩
        · obtain ⟨c,hc,rfl⟩:=List.mem_map.1 hf
          cases ho:c.ob with
          | none=>rw [ho] at hb;cases hb
          | some o=>
            rw [ho] at hb
            exact h.apart o x b (hne fun q=>clIx_none q c hc ho) hb (by rw [e4];simp)
        · rw [List.getElem?_map,Option.map_eq_some_iff] at h1 h2
          obtain ⟨c,hc,rfl⟩:=h1
          obtain ⟨d,hd,rfl⟩:=h2
          cases ho:c.ob with
          | none=>rw [ho] at k1;cases k1
          | some o=>
            cases hq:d.ob with
            | none=>rw [hq] at k2;cases k2
            | some q=>
              rw [ho] at k1
              rw [hq] at k2
              refine h.apart o q k (fun e=>?_) k1 k2
              subst e
              exact hij (hnd i j c d o hc hd ho hq)
      · rw [if_neg hxp] at hx
        rw [hφ,if_neg hxp]
        cases q:clIx cells x with
        | none=>rw [q] at hx;exact h.mem x n mo hx
        | some i=>rw [q] at hx;cases hx
    apart:=fun x y b' hxy hbx hby=>by
      rcases hfp hbx with ⟨rfl,k | ⟨o,k1,k⟩⟩ | ⟨k1,k2,k⟩<;>rcases hfp hby with ⟨rfl,q | ⟨o2,q1,q⟩⟩ | ⟨q1,q2,q⟩
      · exact hxy rfl
      · exact hxy rfl
      · exact h.apart _ _ b' hxy k q
      · exact hxy rfl
      · exact hxy rfl
      · exact h.apart _ _ b' (fun e=>by subst e;exact k1 q2) k q
      · exact h.apart _ _ b' hxy k q
      · exact h.apart _ _ b' (fun e=>by subst e;exact q1 k2) k q
      · exact h.apart _ _ b' hxy k q
    stab:=fun x b' hb=>by
      rcases hfp hb with ⟨_,k | ⟨_,_,k⟩⟩ | ⟨_,_,k⟩
      · exact h.stab _ b' k
      · exact h.stab _ b' k
      · exact h.stab _ b' k
    own:=fun x b' hb=>by
      rcases hfp hb with ⟨_,k | ⟨_,_,k⟩⟩ | ⟨_,_,k⟩
      · exact h.own _ b' k
      · exact h.own _ b' k
      · exact h.own _ b' k
    sbd:=h.sbd
    ssub:=h.ssub
    fr:=h.fr }
def vmc:Value→Option Nat × Nat
  | .slice base _ c=>(base.map (·.block),c)
  | _=>(none,0)
theorem vmc_sl {m:Option Nat} {l c:Nat}:vmc (.slice (m.map fun b=>⟨b,0,none⟩) l c)=(m,c):=by
  cases m<;>rfl
theorem says_unpackN {C:Ctx} {σ:St} {p np ty:Nat} {cells:List Cl} (hp:σ.mem p=(np,some (.abs (pkN ty (cells.map Cl.pc))))) (hm:∀ o n ty es rows,Cl.b o n ty es rows∈cells→(σ.mem o).1=n∧o≠p) (hnd:ClNd cells) :
    Says C σ ⟨σ.env,fun x=>if x=p then (np,some (.box ty (cells.map Cl.ac))) else match clIx cells x with|some i=>(match cells[i]? with|some (.b _ n ty es rows)=>(n+1,some (.buf ty es rows))|_=>σ.mem x)|none=>σ.mem x⟩:=by
  rintro a w ⟨G,h⟩
  obtain ⟨gp,mp,e1,e2,b,e3,vs,fs,K⟩:=h.mem p _ _ hp
  have vl:vs.length=cells.length:=by rw [K.vl,List.length_map]
  have fl:fs.length=cells.length:=by rw [K.fl,List.length_map]
  have hcell:∀ {o i},clIx cells o=some i→∃ n ty es rows,cells[i]?=some (.b o n ty es rows)∧(σ.mem o).1=n∧o≠p∧∃ m c f,vs[i]?=some (.slice (m.map fun b=>⟨b,0,none⟩) rows.length c)∧fs[i]?=some f∧(MO.buf ty es rows).holds Mu.none ⟨w,G.S⟩ (m,c) f:=fun {o i} q=>by
    obtain ⟨c,h1,h2⟩:=clIx_some q
    obtain ⟨n,ty',es,rows,rfl⟩:=ob_b h2
    have hi:i < cells.length:=(List.getElem?_eq_some_iff.1 h1).1
    have k:=hm _ _ _ _ _ (List.mem_of_getElem? h1)
    have hv:vs[i]?=some (vs[i]'(by omega)):=List.getElem?_eq_getElem (by omega)
    have hf:fs[i]?=some (fs[i]'(by omega)):=List.getElem?_eq_getElem (by omega)
    have g:=K.get i (.b ty' es rows) _ _ (by rw [List.getElem?_map,h1];rfl) hv hf
    obtain ⟨m,c,g1,g2⟩:=g
    exact ⟨n,ty',es,rows,h1,k.1,k.2,m,c,_,by rw [hv,g1],hf,g2⟩
  obtain ⟨μ',hμ⟩:∃ μ':Mu,∀ x,μ' x=match clIx cells x with|some i=>G.μ x++[vmc (vs.getD i undef)]|none=>G.μ x:=⟨_,fun _=>rfl⟩
  obtain ⟨φ',hφ⟩:∃ φ':Nat→List Nat,∀ x,φ' x=match clIx cells x with|some i=>fs.getD i []|none=>if x=p then [b] else G.φ x:=⟨_,fun _=>rfl⟩
  have hmu:G.μ.le μ':=fun x g y hy=>by
    rw [hμ]
    cases clIx cells x with
    | none=>exact hy
    | some i=>dsimp only;rw [List.getElem?_append_left (List.getElem?_eq_some_iff.1 hy).1];exact hy
  have hpn:clIx cells p=none:=by
    cases q:clIx cells p with
    | none=>rfl
    | some i=>obtain ⟨_,_,_,_,_,_,k,_⟩:=hcell q;exact absurd rfl k
  -- what an object's blocks were ahead
  have hfp:∀ {x k},k∈φ' x→(∃ i f,clIx cells x=some i∧fs[i]?=some f∧k∈f∧k∈G.φ p)∨(x=p∧k=b∧k∈G.φ p)∨(x≠p∧clIx cells x=none∧k∈G.φ x):=fun {x k} hk=>by
    rw [hφ] at hk
    cases q:clIx cells x with
    | some i=>
      rw [q] at hk
      dsimp only at hk
      obtain ⟨n,ty',es,rows,c1,c2,c3,m,c,f,c4,c5,c6⟩:=hcell q
      rw [List.getD_eq_getElem?_getD,c5] at hk
      exact .inl ⟨i,f,rfl,c5,hk,by rw [K.fp];exact List.mem_cons_of_mem _ (List.mem_flatten.2 ⟨f,List.mem_of_getElem? c5,hk⟩)⟩
    | none=>
      rw [q] at hk
      dsimp only at hk
      by_cases hx:x=p
      · rw [if_pos hx] at hk
        have e:k=b:=by simpa using hk
        exact .inr (.inl ⟨hx,e,by rw [K.fp,e];simp⟩)
      · rw [if_neg hx] at hk
        exact .inr (.inr ⟨hx,rfl,hk⟩)
  have hold:∀ {x k},k∈φ' x→∃ y,k∈G.φ y:=fun hk=>by
    rcases hfp hk with ⟨_,_,_,_,_,q⟩ | ⟨_,_,q⟩ | ⟨_,_,q⟩<;>exact ⟨_,q⟩
  refine ⟨⟨μ',G.S,φ'⟩,?_⟩
  exact {
    size:=h.size
    defers:=fun d hd=>by
      obtain ⟨b',rfl,h1,h2,h3,h4,h5⟩:=h.defers d hd
      exact ⟨b',rfl,h1,h2,h3,h4,fun x hx=>by obtain ⟨y,hy⟩:=hold hx;exact h5 y hy⟩
    dnod:=h.dnod
    mle:=h.mle.trans hmu
    env:=fun t=>(h.env t).mono hmu (Wd.le.refl _)
    gens:=fun x=>by
      have:=h.gens x
      dsimp only
      rw [hμ]
      by_cases hx:x=p
      · subst hx;rw [if_pos rfl,hpn];rw [hp] at this;exact this
      · rw [if_neg hx]
        cases q:clIx cells x with
        | none=>exact this
        | some i=>
          obtain ⟨n,ty',es,rows,c1,c2,_⟩:=hcell q
          dsimp only
          rw [c1]
          simp [this,c2]
    mem:=fun x n' mo' hx=>by
      dsimp only at hx ⊢
      by_cases hxp:x=p
      · subst hxp
        rw [if_pos rfl] at hx
        obtain ⟨e0,hx'⟩:=Prod.mk.inj hx
        subst e0
        obtain rfl:=Option.some.inj hx'
        refine ⟨gp,mp,e1,hmu _ _ _ e2,b,vs,e3,by rw [hφ,hpn];simp,K.heap,by rw [List.length_map,vl],fun i c v h1 h2=>?_⟩
        rw [List.getElem?_map,Option.map_eq_some_iff] at h1
        obtain ⟨c,hc,rfl⟩:=h1
        have hi:i < cells.length:=(List.getElem?_eq_some_iff.1 hc).1
        have hf:fs[i]?=some (fs[i]'(by omega)):=List.getElem?_eq_getElem (by omega)
        have g:=K.get i c.pc v _ (by rw [List.getElem?_map,hc];rfl) h2 hf
        cases c with
        | p y=>exact g.1
        | b o n ty' es rows=>
          obtain ⟨m,cp,g1,g2⟩:=g
          have q:=clIx_at hnd hc rfl
          have hln:(G.μ o).length=n:=by rw [h.gens o];exact (hm _ _ _ _ _ (List.mem_of_getElem? hc)).1
          refine ⟨m,cp,?_,?_,by rw [g1];simp⟩
          · rw [hμ,q]
            dsimp only
            rw [List.getElem?_append_right (by omega),hln,Nat.sub_self,List.getD_eq_getElem?_getD,h2,g1]
            simp [vmc_sl]
          · obtain ⟨_,_,hrl,_⟩:=g2
            simpa using hrl
      · rw [if_neg hxp] at hx
        cases q:clIx cells x with
        | some i=>
          obtain ⟨n,ty',es,rows,c1,c2,c3,m,c,f,c4,c5,c6⟩:=hcell q
          rw [q] at hx
          dsimp only at hx
          rw [c1] at hx
          obtain ⟨e0,hx'⟩:=Prod.mk.inj hx
          subst e0
          obtain rfl:=Option.some.inj hx'
          have hln:(G.μ x).length=n:=by rw [h.gens x];exact c2
          refine ⟨n,(m,c),rfl,?_,?_⟩
          · rw [hμ,q]
            dsimp only
            rw [List.getElem?_append_right (by omega),hln,Nat.sub_self,List.getD_eq_getElem?_getD,c4]
            simp [vmc_sl]
          · rw [hφ,q]
            dsimp only
            rw [List.getD_eq_getElem?_getD,c5]
            exact c6
        | none=>
          rw [q] at hx
          obtain ⟨g,m2,hn,hm2,hh⟩:=h.mem x n' mo' hx
          refine ⟨g,m2,hn,hmu _ _ _ hm2,?_⟩
          rw [hφ,q]
          dsimp only
          rw [if_neg hxp]
          exact hh.mono hmu (Wd.le.refl _) fun k hk=>rfl
    apart:=fun x y k hxy hbx hby=>by
      rcases hfp hbx with ⟨i,f,i1,i2,i3,i4⟩ | ⟨i1,i2,i3⟩ | ⟨i1,i2,i3⟩<;>rcases hfp hby with ⟨j,g,j1,j2,j3,j4⟩ | ⟨j1,j2,j3⟩ | ⟨j1,j2,j3⟩
      · refine K.ap i j f g k (fun e=>?_) i2 j2 i3 j3
        subst e
        obtain ⟨c,a1,a2⟩:=clIx_some i1
        obtain ⟨d,b1,b2⟩:=clIx_some j1
        rw [a1] at b1
        obtain rfl:=Option.some.inj b1
        rw [a2] at b2
        exact hxy (Option.some.inj b2)
      · subst j2;exact K.nb f (List.mem_of_getElem? i2) i3
      · exact h.apart p y k (Ne.symm j1) i4 j3
      · subst i2;exact K.nb g (List.mem_of_getElem? j2) j3
      · exact hxy (i1.trans j1.symm)
      · exact h.apart p y k (Ne.symm j1) i3 j3
      · exact h.apart x p k i1 i3 j4
      · exact h.apart x p k i1 i3 j3
      · exact h.apart x y k hxy i3 j3
    stab:=fun x b' hb=>by obtain ⟨y,hy⟩:=hold hb;exact h.stab y b' hy
    own:=fun x b' hb=>by obtain ⟨y,hy⟩:=hold hb;exact h.own y b' hy
    sbd:=h.sbd
    ssub:=h.ssub
    fr:=h.fr }
theorem st_ext {σ τ:St} (h1:σ.env=τ.env) (h2:∀ x,σ.mem x=τ.mem x):σ=τ:=by
 cases σ;cases τ
 simp only [St.mk.injEq]
 exact ⟨h1,funext h2⟩
theorem says_to {C:Ctx} {σ τ τ':St} (h:Says C σ τ) (he:τ.env=τ'.env) (hm:∀ x,τ.mem x=τ'.mem x):Says C σ τ':=by
 rw [← st_ext he hm];exact h
section
variable {C:Ctx} {σ:St} {p np ty a na tA ea b nb tB eb:Nat} {p0 p3:PVal} {ra rb:List (List PVal)} {ma mb:Option MO}
theorem nd2 (hab:a≠b):ClNd [.p p0,.b a na tA ea ra,.b b nb tB eb rb,.p p3]:=by
 intro i j c d o h1 h2 h3 h4
 match i,j with
 | 0,_=>obtain rfl:=Option.some.inj h1;cases h3
 | _,0=>obtain rfl:=Option.some.inj h2;cases h4
 | 3,_=>obtain rfl:=Option.some.inj h1;cases h3
 | _,3=>obtain rfl:=Option.some.inj h2;cases h4
 | 1,1=>rfl
 | 2,2=>rfl
 | 1,2=>
  obtain rfl:=Option.some.inj h1;obtain rfl:=Option.some.inj h2
  obtain rfl:=Option.some.inj h3;exact absurd (Option.some.inj h4).symm hab
 | 2,1=>
  obtain rfl:=Option.some.inj h1;obtain rfl:=Option.some.inj h2
  obtain rfl:=Option.some.inj h3;exact absurd (Option.some.inj h4) hab
 | i+4,_=>simp at h1
 | _,j+4=>simp at h2
theorem says_unpack2 (hp:σ.mem p=(np,some (.abs (pkN ty [.p p0,.b tA ea ra,.b tB eb rb,.p p3])))) (ha:σ.mem a=(na,ma)) (hb:σ.mem b=(nb,mb)) (hab:a≠b) (hap:a≠p) (hbp:b≠p) {la lb:Nat} (hla:ra.length=la) (hlb:rb.length=lb) :
  Says C σ (((σ.put a (na+1,some (.buf tA ea ra))).put b (nb+1,some (.buf tB eb rb))).put p (np,some (.box ty [.p p0,.osl a na ea 0 la,.osl b nb eb 0 lb,.p p3]))):=by
 subst hla hlb
 have h:=says_unpackN (C:=C) (cells:=[.p p0,.b a na tA ea ra,.b b nb tB eb rb,.p p3]) hp (fun o n t e r hm=>by
  simp only [List.mem_cons,List.not_mem_nil,or_false,Cl.b.injEq,reduceCtorEq,false_or] at hm
  rcases hm with ⟨rfl,rfl,rfl,rfl,rfl⟩ | ⟨rfl,rfl,rfl,rfl,rfl⟩
  ·exact ⟨by rw [ha],hap⟩
  ·exact ⟨by rw [hb],hbp⟩) (nd2 hab)
 refine says_to h rfl fun x=>?_
 show (if x=p then _ else _)=(if x=p then _ else if x=b then _ else if x=a then _ else _)
 by_cases h1:x=p
 ·rw [if_pos h1,if_pos h1];rfl
 rw [if_neg h1,if_neg h1]
 by_cases h2:x=b
 ·subst h2
  rw [if_pos rfl]
  simp [clIx,Cl.ob,hab]
 rw [if_neg h2]
 by_cases h3:x=a
 ·subst h3
  rw [if_pos rfl]
  simp [clIx,Cl.ob]
 rw [if_neg h3]
 have e:clIx [.p p0,.b a na tA ea ra,.b b nb tB eb rb,.p p3] x=none:=by simp [clIx,Cl.ob,Ne.symm h2,Ne.symm h3]
 rw [e]
theorem says_pack2 {la lb:Nat} (hp:σ.mem p=(np,some (.box ty [.p p0,.osl a na ea 0 la,.osl b nb eb 0 lb,.p p3]))) {ka kb:Nat} (ha:σ.mem a=(ka,some (.buf tA ea ra))) (hb:σ.mem b=(kb,some (.buf tB eb rb))) (hka:ka=na+1) (hkb:kb=nb+1) (hla:la=ra.length) (hlb:lb=rb.length) (hab:a≠b) (hap:a≠p) (hbp:b≠p) :
  Says C σ (((σ.put a (ka,none)).put b (kb,none)).put p (np,some (.abs (pkN ty [.p p0,.b tA ea ra,.b tB eb rb,.p p3])))):=by
 subst hla hlb hka hkb
 have h:=says_packN (C:=C) (cells:=[.p p0,.b a na tA ea ra,.b b nb tB eb rb,.p p3]) hp (fun o n t e r hm=>by
  simp only [List.mem_cons,List.not_mem_nil,or_false,Cl.b.injEq,reduceCtorEq,false_or] at hm
  rcases hm with ⟨rfl,rfl,rfl,rfl,rfl⟩ | ⟨rfl,rfl,rfl,rfl,rfl⟩
  ·exact ⟨ha,hap⟩
  ·exact ⟨hb,hbp⟩) (nd2 hab)
 refine says_to h rfl fun x=>?_
 show (if x=p then _ else _)=(if x=p then _ else if x=b then _ else if x=a then _ else _)
 by_cases h1:x=p
 ·rw [if_pos h1,if_pos h1];rfl
 rw [if_neg h1,if_neg h1]
 by_cases h2:x=b
 ·subst h2
  rw [if_pos rfl]
  simp [clIx,Cl.ob,hab,hb]
 rw [if_neg h2]
 by_cases h3:x=a
 ·subst h3
  rw [if_pos rfl]
  simp [clIx,Cl.ob,ha]
 rw [if_neg h3]
 have e:clIx [.p p0,.b a na tA ea ra,.b b nb tB eb rb,.p p3] x=none:=by simp [clIx,Cl.ob,Ne.symm h2,Ne.symm h3]
 rw [e]
end
end Go.Aw
namespace Go.Proofs.YtpgppgehhclfoaaGreat.Wi
open Go Go.RowKit Go.Aw Go.Aw.Cart Go.Aw.Tree Go.Proofs.YtpgppgehhclfoaaGreat.Ca Go.Proofs.YtpgppgehhclfoaaGreat.Rg
set_option linter.unusedVariables false
set_option linter.unusedSimpArgs false
set_option maxRecDepth 8000
set_option maxHeartbeats 4000000
abbrev Ans:=Int × Int × List Int
abbrev Ha:=Ans × Int
abbrev aR (a:Ans):List PVal:=[.i a.1,.i a.2.1,.sl 1 (a.2.2.map iRw) false]
abbrev aV (a:Ans):AV:=.a [.p (.i a.1),.p (.i a.2.1),.p (.sl 1 (a.2.2.map iRw) false)]
abbrev haR (h:Ha):List PVal:=[.i h.1.1,.i h.1.2.1,.sl 1 (h.1.2.2.map iRw) false,.i h.2]
structure Bx where
 out:List Hm
 ans:List Ha
 lost:Int
abbrev bxA (b:Bx):AObj:=pkN 72 [.p (.b true),.b 166 41 (b.out.map hmR),.b 168 4 (b.ans.map haR),.p (.i b.lost)]
abbrev bxM (b:Bx):MO:=.abs (bxA b)
open O1
theorem obNew_o:OCall Tryz.prog 24 [] (fun _=>(0,none)) (.o (.ptr 2 0 0)) (memL [(2,(1,some (bxM ⟨[],[],0⟩)))]):=by
 refine ocall_ofF 2 Tryz.func24 rfl (fun w0 F S0 M0=>?_)
 repeat' (first|refine jx18 ?_|refine jy0 ?_ ?_|exact spF|refine spQ fun hq hq'=>?_|refine spN fun hn=>?_|fail)
 refine aws_says (says_nil_at (p:=2) (o:=901) (k:=1) (es:=41) (ty:=166) (ds:=[.p (.b true),.osl 901 0 41 0 0,.p (.v (.slice none 0 0)),.p (.i 0)]) rfl rfl rfl rfl (by decide) (by decide)) ?_
 refine aws_says (says_nil_at (p:=2) (o:=902) (k:=2) (es:=4) (ty:=168) (ds:=[.p (.b true),.osl 901 0 41 0 0,.osl 902 0 4 0 0,.p (.i 0)]) rfl rfl rfl rfl (by decide) (by decide)) ?_
 refine aws_says (says_pack2 (p:=2) (a:=901) (b:=902) rfl rfl rfl rfl rfl rfl rfl (by decide) (by decide) (by decide)) ?_
 as_aux_lemma=>
  repeat' (first|refine jx17 ?_|refine jy0 ?_ ?_|exact spF|refine spQ fun hq hq'=>?_|refine spN fun hn=>?_|fail)
  exact RetO.mk (ot1 rfl rfl (.one (.kptr rfl)) rfl) ⟨.abs,trivial⟩
instance obNew_i {c k:Nat}:OC Tryz.prog 24 [] [] [(c,k)] True (.o (.ptr c k 0)) [(c,(k+1,some (bxM ⟨[],[],0⟩)))]:=⟨fun _=>obNew_o.fresh1 c k⟩
def askF (m:Int):Int:=if m < 0 then 1 else 0
theorem obAsk_o (n:Nat) (b:Bx) (m:Int):OCall Tryz.prog 97 [.o (.ptr 1000 n 0),.p (.i m)] (memL [(1000,(n+1,some (bxM b)))]) (.p (.i (askF m))) (memL [(1000,(n+1,some (bxM b)))]):=by
 refine ocall_of1 Tryz.func97 rfl (fun w0 F S0 M0=>?_)
 refine aws_says (says_unpack2 (p:=1000) (a:=901) (b:=902) rfl rfl rfl (by decide) (by decide) (by decide) (List.length_map _) (List.length_map _)) ?_
 unfold askF
 by_cases q:m < 0
 ·have d1:decide (m < 0)=true:=decide_eq_true q
  rw [if_pos q]
  repeat' (first|refine jx18 ?_|refine jy0 ?_ ?_|exact spF|refine spQ fun hq hq'=>?_|refine spN fun hn=>?_|fail)
  refine aws_says (says_pack2 (p:=1000) (a:=901) (b:=902) rfl rfl rfl rfl rfl (List.length_map _).symm (List.length_map _).symm (by decide) (by decide) (by decide)) ?_
  as_aux_lemma=>
   repeat' (first|refine jx17 ?_|refine jy0 ?_ ?_|exact spF|refine spQ fun hq hq'=>?_|refine spN fun hn=>?_|fail)
   exact RetO.mk (ot1 rfl rfl finS_p rfl) ⟨.abs,trivial⟩
 ·have d1:decide (m < 0)=false:=decide_eq_false q
  rw [if_neg q]
  repeat' (first|refine jx18 ?_|refine jy0 ?_ ?_|exact spF|refine spQ fun hq hq'=>?_|refine spN fun hn=>?_|fail)
  refine aws_says (says_pack2 (p:=1000) (a:=901) (b:=902) rfl rfl rfl rfl rfl (List.length_map _).symm (List.length_map _).symm (by decide) (by decide) (by decide)) ?_
  as_aux_lemma=>
   repeat' (first|refine jx17 ?_|refine jy0 ?_ ?_|exact spF|refine spQ fun hq hq'=>?_|refine spN fun hn=>?_|fail)
   exact RetO.mk (ot1 rfl rfl finS_p rfl) ⟨.abs,trivial⟩
instance obAsk_i {c g n:Nat} {b:Bx} {m:Int}:OC Tryz.prog 97 [.o (.ptr c g 0),.p (.i m)] [(c,(n,some (bxM b)))] [] (n=g+1) (.p (.i (askF m))) [(c,(n,some (bxM b)))]:=⟨fun h=>by obtain rfl:=h;exact (obAsk_o g b m).one c⟩
theorem obWaits_o (n:Nat) (b:Bx):OCall Tryz.prog 25 [.o (.ptr 1000 n 0)] (memL [(1000,(n+1,some (bxM b)))]) (.tup [.one (.p (.i (b.out.length:Int))),.one (.p (.i (b.ans.length:Int)))]) (memL [(1000,(n+1,some (bxM b)))]):=by
 refine ocall_of1 Tryz.func25 rfl (fun w0 F S0 M0=>?_)
 refine aws_says (says_unpack2 (p:=1000) (a:=901) (b:=902) rfl rfl rfl (by decide) (by decide) (by decide) (List.length_map _) (List.length_map _)) ?_
 repeat' (first|refine jx19 ?_|refine jy0 ?_ ?_|exact spF|refine spQ fun hq hq'=>?_|refine spN fun hn=>?_|fail)
 refine aws_says (says_pack2 (p:=1000) (a:=901) (b:=902) rfl rfl rfl rfl rfl (List.length_map _).symm (List.length_map _).symm (by decide) (by decide) (by decide)) ?_
 as_aux_lemma=>
  repeat' (first|refine jx17 ?_|refine jy0 ?_ ?_|exact spF|refine spQ fun hq hq'=>?_|refine spN fun hn=>?_|fail)
  exact RetO.mk (ot2 rfl rfl finS_p rfl finS_p rfl) ⟨.abs,trivial⟩
theorem obWaits_i {c g n:Nat} {b:Bx}:OC Tryz.prog 25 [.o (.ptr c g 0)] [(c,(n,some (bxM b)))] [] (n=g+1) (.tup [.one (.p (.i (b.out.length:Int))),.one (.p (.i (b.ans.length:Int)))]) [(c,(n,some (bxM b)))]:=⟨fun h=>by obtain rfl:=h;exact (obWaits_o g b).one c⟩
theorem obLost_o (n:Nat) (b:Bx):OCall Tryz.prog 26 [.o (.ptr 1000 n 0)] (memL [(1000,(n+1,some (bxM b)))]) (.p (.i b.lost)) (memL [(1000,(n+1,some (bxM b)))]):=by
 refine ocall_of1 Tryz.func26 rfl (fun w0 F S0 M0=>?_)
 refine aws_says (says_unpack2 (p:=1000) (a:=901) (b:=902) rfl rfl rfl (by decide) (by decide) (by decide) (List.length_map _) (List.length_map _)) ?_
 repeat' (first|refine jx18 ?_|refine jy0 ?_ ?_|exact spF|refine spQ fun hq hq'=>?_|refine spN fun hn=>?_|fail)
 refine aws_says (says_pack2 (p:=1000) (a:=901) (b:=902) rfl rfl rfl rfl rfl (List.length_map _).symm (List.length_map _).symm (by decide) (by decide) (by decide)) ?_
 as_aux_lemma=>
  repeat' (first|refine jx17 ?_|refine jy0 ?_ ?_|exact spF|refine spQ fun hq hq'=>?_|refine spN fun hn=>?_|fail)
  exact RetO.mk (ot1 rfl rfl finS_p rfl) ⟨.abs,trivial⟩
theorem obLost_i {c g n:Nat} {b:Bx}:OC Tryz.prog 26 [.o (.ptr c g 0)] [(c,(n,some (bxM b)))] [] (n=g+1) (.p (.i b.lost)) [(c,(n,some (bxM b)))]:=⟨fun h=>by obtain rfl:=h;exact (obLost_o g b).one c⟩
theorem obOut_o (n:Nat) (b:Bx) (s:Int) (hl:b.out.length≤1000000) (hd:∀ h∈b.out,h.1.dig.length=32):OCall Tryz.prog 29 [.o (.ptr 1000 n 0),.p (.i s)] (memL [(1000,(n+1,some (bxM b)))]) (.p (.sl 40 ((goneF b.out s).map mR) false)) (memL [(1000,(n+1,some (bxM ⟨waitF b.out s,b.ans,b.lost⟩)))]):=by
 refine ocall_of1 Tryz.func29 rfl (fun w0 F S0 M0=>?_)
 refine aws_says (says_unpack2 (p:=1000) (a:=901) (b:=902) rfl rfl rfl (by decide) (by decide) (by decide) (List.length_map _) (List.length_map _)) ?_
 refine aws_says (says_frz_at (p:=1000) (o:=901) (k:=1) (ds:=[.p (.b true),.p (.sl 41 (b.out.map hmR) false),.osl 902 0 4 0 b.ans.length,.p (.i b.lost)]) rfl rfl rfl rfl rfl (List.length_map _).symm (by decide)) ?_
 haveI i1:∀ c m:Nat,OC Tryz.prog 96 [.p (.sl 41 (b.out.map hmR) false),.p (.i s)] [] [(c,m)] True (.tup [.one (.p (.sl 40 ((goneF b.out s).map mR) false)),.one (.osl c (m+(waitF b.out s).length) 41 0 (waitF b.out s).length)]) [(c,(m+((waitF b.out s).length+1),some (.buf 166 41 ((waitF b.out s).map hmR))))]:=fun c m=>⟨fun _=>(splitM_o b.out false s hl hd).fresh1 c m⟩
 repeat' (first|refine jx18 ?_|refine jy0 ?_ ?_|exact spF|refine spQ fun hq hq'=>?_|refine spN fun hn=>?_|fail)
 refine aws_says (says_pack2 (p:=1000) (a:=15) (b:=902) rfl rfl rfl (by omega) rfl (List.length_map _).symm (List.length_map _).symm (by decide) (by decide) (by decide)) ?_
 as_aux_lemma=>
  repeat' (first|refine jx17 ?_|refine jy0 ?_ ?_|exact spF|refine spQ fun hq hq'=>?_|refine spN fun hn=>?_|fail)
  exact RetO.mk (ot1 rfl rfl finS_p rfl) ⟨.abs,trivial⟩
theorem obOut_i {c g n:Nat} {b:Bx} {s:Int}:OC Tryz.prog 29 [.o (.ptr c g 0),.p (.i s)] [(c,(n,some (bxM b)))] [] (n=g+1∧b.out.length≤1000000∧∀ h∈b.out,h.1.dig.length=32) (.p (.sl 40 ((goneF b.out s).map mR) false)) [(c,(n,some (bxM ⟨waitF b.out s,b.ans,b.lost⟩)))]:=⟨fun h=>by obtain ⟨rfl,h1,h2⟩:=h;exact (obOut_o g b s h1 h2).one c⟩
end Go.Proofs.YtpgppgehhclfoaaGreat.Wi
