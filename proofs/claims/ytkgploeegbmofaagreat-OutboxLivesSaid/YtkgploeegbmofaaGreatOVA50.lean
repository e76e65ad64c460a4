/- outbox, the law OutboxLives -/
import Derived.Test.YtkgploeegbmofaaGreatOVA35
import Derived.Test.YtkgploeegbmofaaGreatOVA49
namespace Go.Proofs.YtkgploeegbmofaaGreat.Wi
open Go Go.RowKit Go.Aw Go.Aw.Cart Go.Aw.Tree Go.Proofs.YtkgploeegbmofaaGreat.Ca Go.Proofs.YtkgploeegbmofaaGreat.Rg
set_option linter.unusedVariables false
set_option linter.unusedSimpArgs false
set_option maxRecDepth 8000
set_option maxHeartbeats 4000000
section
variable {C:Ctx} {o:Oper} {σ:St} {T:TypeId} {x:Operand} {k:TK} {sz by_ ob g n:Nat} {b:Bx}
theorem lop_rx0 (ho:o.op=.load T x) (hT:TI C.P T k sz by_) (hx:σ.look x=.o (.ptr ob g 0)) (hm:σ.mem ob=(n,some (rxM b))) (hn:n=g+1) (hk:k.agg=false) (hs:sz=1) (hd:dOk C o.dst=true):LOp C o σ ⟨.p (.ln b.out.length),[]⟩ (fun y=>y == ob):=
 lop_ld_ex (f:=fun P:RP b=>[.b 92 40 P.1.1.length ((P.1.1++b.out.map (·.1)).map mR),.b 3 1 P.1.2.length ((P.1.2++b.out.map (·.2)).map iRw),.b 95 3 0 ((b.ans.map (·.1)).map aR),.b 3 1 0 ((b.ans.map (·.2)).map iRw),.p (.i b.lost)]) ho hT hx hm hn hk hs (fun P=>⟨_,rfl,fun X v fp h=>by
  obtain ⟨m,c,_,h2,_⟩:=h
  rw [rx_len] at h2
  exact ⟨_,_,h2⟩⟩) hd
theorem lop_rx2 (ho:o.op=.load T x) (hT:TI C.P T k sz by_) (hx:σ.look x=.o (.ptr ob g (0+2))) (hm:σ.mem ob=(n,some (rxM b))) (hn:n=g+1) (hk:k.agg=false) (hs:sz=1) (hd:dOk C o.dst=true):LOp C o σ ⟨.p (.ln b.ans.length),[]⟩ (fun y=>y == ob):=
 lop_ld_ex (f:=fun P:RP b=>[.b 92 40 P.1.1.length ((P.1.1++b.out.map (·.1)).map mR),.b 3 1 P.1.2.length ((P.1.2++b.out.map (·.2)).map iRw),.b 95 3 0 ((b.ans.map (·.1)).map aR),.b 3 1 0 ((b.ans.map (·.2)).map iRw),.p (.i b.lost)]) (i:=2) ho hT hx hm hn hk hs (fun P=>⟨_,rfl,fun X v fp h=>by
  obtain ⟨m,c,_,h2,_⟩:=h
  rw [Nat.sub_zero,rx_l0] at h2
  exact ⟨_,_,h2⟩⟩) hd
theorem lop_rx4 (ho:o.op=.load T x) (hT:TI C.P T k sz by_) (hx:σ.look x=.o (.ptr ob g (0+4))) (hm:σ.mem ob=(n,some (rxM b))) (hn:n=g+1) (hk:k.agg=false) (hs:sz=1) (hd:dOk C o.dst=true):LOp C o σ ⟨.p (.i b.lost),[]⟩ (fun y=>y == ob):=
 lop_ld_ex (f:=fun P:RP b=>[.b 92 40 P.1.1.length ((P.1.1++b.out.map (·.1)).map mR),.b 3 1 P.1.2.length ((P.1.2++b.out.map (·.2)).map iRw),.b 95 3 0 ((b.ans.map (·.1)).map aR),.b 3 1 0 ((b.ans.map (·.2)).map iRw),.p (.i b.lost)]) (i:=4) ho hT hx hm hn hk hs (fun P=>⟨_,rfl,fun X v fp h=>h.1⟩) hd
theorem lop_bX0 {fs:List (Nat × Nat)} {z:List Value} (ho:o.op=.build T #[]) (hF:TF C.P T fs) (hz:TZ C.P T z) (h1:z.all (·.oneCell')=true)
  (hb:bfill (fun i=>fs[i]?) (z.map fun v=>.p (.v v)) []=some [.p nilS,.p nilS,.p nilS,.p nilS,.p (.i 0)]) (hd:dOk C o.dst=true):LOp C o σ ⟨.a [.p nilS,.p nilS,.p nilS,.p nilS,.p (.i 0)],[]⟩ (fun _=>false):=lop_build0 ho hF hz h1 hb hd
end
theorem kin2 {x c d:Nat} {m n:Nat × Option MO} (h:kIn [(c,m),(d,n)] x=true):x=c∨x=d:=by
 simp only [kIn,Bool.or_false,Bool.or_eq_true] at h
 rcases h with h|h
 ·exact .inl (Nat.eq_of_beq_eq_true h)
 ·exact .inr (Nat.eq_of_beq_eq_true h)
theorem lop_oc32 {C:Ctx} {o:Oper} {σ:St} {f:FuncId} {x0 x1 x2:Operand} {ts:Array TypeId} {a0 a1 a2 r:AV} {c d n nd:Nat} {mo md:MO} {upds:List (Nat × (Nat × Option MO))} (ho:o.op=.call ⟨.value (.func f),#[x0,x1,x2],ts⟩) (hfn:FnT C.P f) (h0:σ.look x0=a0) (h1:σ.look x1=a1) (h2:σ.look x2=a2) (hc:OCAt C.P f [a0,a1,a2] [(c,(n,some mo)),(d,(nd,some md))] [] r upds) (hm:σ.mem c=(n,some mo)) (hm2:σ.mem d=(nd,some md)) (hs1:kIn upds c=true) (hs2:kIn upds d=true) (hd:dOk C o.dst=true):LOp C o σ ⟨r,upds⟩ (kIn upds):=
 lop_ocall ho hfn (.cons h0 (.cons h1 (.cons h2 .nil))) hc (by intro p hp;simp only [List.mem_cons,List.not_mem_nil,or_false] at hp;rcases hp with rfl|rfl;exact hm;exact hm2) (by intro p hp;cases hp) (by intro p hp;simp only [List.mem_cons,List.not_mem_nil,or_false] at hp;rcases hp with rfl|rfl;exact hs1;exact hs2) (by intro p hp;cases hp) hd
theorem lop_alZ {C:Ctx} {o:Oper} {σ:St} {T:TypeId} {d n:Nat} {mo0:Option MO} (ho:o.op=.alloc T) (hz:TZ C.P T [.bool false,.slice none 0 0,.slice none 0 0,.int .i64 0]) (hdst:o.dst=some d) (hm:σ.mem d=(n,mo0)) (hd:dOk C o.dst=true):LOp C o σ ⟨.o (.ptr d n 0),[(d,(n+1,some (.box T [.p (.b false),.p nilS,.p nilS,.p (.i 0)])))]⟩ (fun y=>y == d):=
 lop_alloc (hz:=hz) ho hdst hm (by decide) hd
namespace OL
theorem lopC {C:Ctx} {o:Oper} {σ:St} {e:Eff} {ro:Nat→Bool} (h:LOp C o σ e ro:=by
  first|(apply lop_alZ;(focus rfl);(focus exact inferInstance);(focus rfl);(focus rfl);(focus rfl))|(apply lop_rx0;(focus rfl);(focus exact inferInstance);(focus rfl);(focus rfl);(focus rfl);(focus rfl);(focus rfl);(focus rfl))|(apply lop_rx2;(focus rfl);(focus exact inferInstance);(focus rfl);(focus rfl);(focus rfl);(focus rfl);(focus rfl);(focus rfl))|(apply lop_rx4;(focus rfl);(focus exact inferInstance);(focus rfl);(focus rfl);(focus rfl);(focus rfl);(focus rfl);(focus rfl))|(apply lop_len_ln;(focus rfl);(focus exact inferInstance);(focus rfl);(focus rfl))|(apply lop_bX0;(focus rfl);(focus exact inferInstance);(focus exact inferInstance);(focus decide);(focus rfl);(focus rfl))|exact O5.lopC|exact O6.lopC|fail):LOp C o σ e ro:=h
section steps
variable {C:Ctx} {ops:Array Oper} {o:Oper} {rest:List Oper} {K:St→Prop} {σ:St} {e:Eff} {ro:Nat→Bool} {W:List (Nat × Nat)} {i:Nat}
theorem rnC {d:Nat} (hg:Guard ops σ o true:=by first|exact gd_n rfl rfl|exact gd_t rfl rfl rfl rfl|exact gd_t rfl rfl rfl (by assumption)) (hd:o.dst=some d:=by rfl) (h:LOp C o σ e ro:=by exact lopC) (hk:RunN C ops rest K (e.app (some d) σ)):RunN C ops (o::rest) K σ:=rn_any hg hd h hk
theorem rkC {d:Nat} (hg:Guard ops σ o true:=by first|exact gd_n rfl rfl|exact gd_t rfl rfl rfl rfl|exact gd_t rfl rfl rfl (by assumption)) (hd':o.dst=some d:=by rfl) (hd:dOk C o.dst=true:=by rfl) (h:LOp C o σ e ro:=by exact lopC) (hro:∀ x,ro x=true→okObj ops W i x=true:=by first|exact fun _=>ro_none|exact ro_one rfl|exact ro_k1 rfl|exact ro_one (by kernel_rfl)|exact ro_k1 (by kernel_rfl)|exact ro_kIn (by decide)) (hob:∀ p∈e.obj,(i,p.1)∈W:=by first|exact ob_none|exact ob_one (by decide)|decide) (hk:RunK C ops W (i+1) rest K (e.app (some d) σ)):RunK C ops W i (o::rest) K σ:=rk_wr hg hd' hd h hro hob hk
end steps
end OL
open OL
open O3 (rnSH rkSH stoH3)
theorem anyL {l:List Obp} (h:l.any (gO l.length)=false):l.length≤60:=by
 cases l with
 | nil=>exact Nat.zero_le _
 | cons a t=>
  have:=List.any_eq_false.1 h a List.mem_cons_self
  unfold gO at this
  rw [Bool.or_eq_true,not_or,decide_eq_true_iff] at this
  omega
theorem gO_no {n:Nat} {o:Obp} (h:OGo o) (hg:gO n o=false):MIn o.msg∧o.ans.2.2.length≤100∧(o.kind=5→o.mark≤600):=by
 unfold gO at hg
 simp only [Bool.or_eq_false_iff,decide_eq_false_iff_not,Bool.and_eq_false_imp,decide_eq_true_eq] at hg
 obtain ⟨_,h1,h2,h3⟩:=hg
 exact ⟨(min_of h.msg h1).1,by omega,fun q=>by have:=h3 q;omega⟩
theorem outboxLives_w (l:List Obp) (hl:l.length≤9223372036854775807) (h:∀ o∈l,OGo o):PCall Tryz.prog 3 [.p (.sl 45 (l.map obR) false)] (.p (.b true)):=by
 refine pcall_of Tryz.func3 rfl (fun w0 F S0 M0=>?_)
 have cg:=great29_w l false hl h
 haveI i0:PC Tryz.prog 8 [] True (.p (.b true)):=⟨fun _=>alive29_w⟩
 cases hg:l.any (gO l.length) with
 | true=>
  rw [hg] at cg
  haveI i1:PC Tryz.prog 7 [.p (.sl 45 (l.map obR) false)] True (.p (.b true)):=⟨fun _=>cg⟩
  as_aux_lemma=>
   repeat' (first|refine jx17 ?_|refine jy0 ?_ ?_|exact spF|refine spQ fun hq hq'=>?_|refine spN fun hn=>?_|fail)
   exact rt1 rfl rfl finS_p rfl
 | false=>
 rw [hg] at cg
 haveI i1:PC Tryz.prog 7 [.p (.sl 45 (l.map obR) false)] True (.p (.b false)):=⟨fun _=>cg⟩
 have h60:=anyL hg
 have hX:∀ o∈l,MIn o.msg∧o.ans.2.2.length≤100∧(o.kind=5→o.mark≤600):=fun o ho=>gO_no (h o ho) (by have:=List.any_eq_false.1 hg o ho;simpa using this)
 clear cg hg h
 repeat' (first|refine jx17 ?_|refine jy0 ?_ ?_|exact spF|refine spQ fun hq hq'=>?_|refine spN fun hn=>?_|fail)
 refine aws_says (says_nil_at (p:=18) (o:=901) (k:=0) (es:=40) (ty:=92) (ds:=[.osl 901 0 40 0 0,.p nilS,.p nilS,.p nilS,.p (.i 0)]) rfl rfl rfl rfl (by decide) (by decide)) ?_
 refine aws_says (says_nil_at (p:=18) (o:=902) (k:=1) (es:=1) (ty:=3) (ds:=[.osl 901 0 40 0 0,.osl 902 0 1 0 0,.p nilS,.p nilS,.p (.i 0)]) rfl rfl rfl rfl (by decide) (by decide)) ?_
 refine aws_says (says_nil_at (p:=18) (o:=903) (k:=2) (es:=3) (ty:=95) (ds:=[.osl 901 0 40 0 0,.osl 902 0 1 0 0,.osl 903 0 3 0 0,.p nilS,.p (.i 0)]) rfl rfl rfl rfl (by decide) (by decide)) ?_
 refine aws_says (says_nil_at (p:=18) (o:=904) (k:=3) (es:=1) (ty:=3) (ds:=[.osl 901 0 40 0 0,.osl 902 0 1 0 0,.osl 903 0 3 0 0,.osl 904 0 1 0 0,.p (.i 0)]) rfl rfl rfl rfl (by decide) (by decide)) ?_
 refine aws_says (says_pack4 (p:=18) (a:=901) (b:=902) (c:=903) (d:=904) (la:=0) (lb:=0) (ra:=[]) (rb:=[]) (rc:=[]) (rd:=[]) rfl rfl rfl rfl rfl rfl rfl rfl rfl rfl rfl rfl rfl (by decide)) ?_
 refine aws_says (says_toexE (p:=18) (f:=rxP ⟨[],[],0⟩) ⟨([],[]),.inl ⟨rfl,rfl⟩⟩ rfl rfl) ?_
 refine aws_loopS (0::3::4::[2,5,6,7,8,19,20,21,22,23,24,25,26,27,28,29,30,31,32,33,34,35,36,37,38,39,40,41,42,43,44,45,46,47,48,49,50,51,52,53,54,55,56,57,58,59,60,61,62,63,64,65,66,67,68,69,70,71,72,73,74,75]) [16,18] (fun (x:Nat × Nat × Bx)=>[(6,.p (.i x.1)),(5,.p (.i x.2.1)),(0,.p (.sl 45 (l.map obR) false)),(3,.o (.ptr 16 0 0)),(4,.o (.ptr 18 0 0))]) (fun x=>[(16,(1,some (bxM x.2.2))),(18,(1,some (rxM x.2.2)))]) (fun x=>x.1≤l.length∧x.2.1≤3∧BInv x.1 (x.1+600 * x.2.1) x.2.2) (fun x=>l.length - x.1) (0,0,⟨[],[],0⟩) ⟨Nat.zero_le _,Nat.zero_le _,BInv.start⟩ (by exact knA) (by exact knA) ?_
 rintro ⟨i,many,b⟩ β γ ⟨hi,h3,hI⟩
 dsimp only at hi h3 hI ⊢
 by_cases hil:i < l.length
 ·have d1:decide ((i:Int) < (l.length:Int))=true:=decide_eq_true (by omega)
  have ei:(i:Int).toNat=i:=Int.toNat_natCast i
  obtain ⟨x1,x2,x3⟩:=hX (l.getD (i:Int).toNat default) (by rw [ei,getD_at hil];exact List.getElem_mem _)
  have hd:=x1.d32
  have hJ:=hI.done x1 x2 x3
  have dd:OCAt Tryz.prog 12 [.o (.ptr 16 0 0),.o (.ptr 18 0 0),opA (l.getD (i:Int).toNat default)] [(16,(1,some (bxM b))),(18,(1,some (rxM b)))] [] (.p (.b true)) [(16,(1,some (bxM (doB b (l.getD (i:Int).toNat default))))),(18,(1,some (rxM (doB b (l.getD (i:Int).toNat default)))))]:=by
   have dd:=(do_o b (l.getD (i:Int).toNat default) 0 0 hI x1 (by omega) (by omega) x2 x3).two 16 18 (by decide)
   simp only [List.map_cons,List.map_nil] at dd
   rw [show AV.ren (rn2 16 18) (opA (l.getD (i:Int).toNat default))=opA (l.getD (i:Int).toNat default) by show AV.a (((obR _).map AC.p).map (AC.ren (rn2 16 18)))=_;rw [List.map_map];rfl] at dd
   exact dd
  generalize doB b (l.getD (i:Int).toNat default)=b' at dd hJ
  haveI jw:∀ c g n:Nat,OC Tryz.prog 10 [.o (.ptr c g 0)] [(c,(n,some (bxM b)))] [] (n=g+1) (.tup [.one (.p (.i (b.out.length:Int))),.one (.p (.i (b.ans.length:Int)))]) [(c,(n,some (bxM b)))]:=fun c g n=>obWaits_i
  haveI jl:∀ c g n:Nat,OC Tryz.prog 11 [.o (.ptr c g 0)] [(c,(n,some (bxM b)))] [] (n=g+1) (.p (.i b.lost)) [(c,(n,some (bxM b)))]:=fun c g n=>obLost_i
  have e1:decide ((b.out.length:Int)≠(b.out.length:Int))=false:=decide_eq_false (fun h=>h rfl)
  have e2:decide ((b.ans.length:Int)≠(b.ans.length:Int))=false:=decide_eq_false (fun h=>h rfl)
  have e3:decide (b.lost≠b.lost)=false:=decide_eq_false (fun h=>h rfl)
  have n0:(!true)=false:=rfl
  clear hI x1 x2 x3
  by_cases q5:(l.getD (i:Int).toNat default).kind=5
  ·have d5:decide ((l.getD (i:Int).toNat default).kind=5)=true:=decide_eq_true q5
   rw [if_pos q5] at hJ
   by_cases hm:many=3
   ·have d3:decide ((3:Int) < (many:Int)+1)=true:=decide_eq_true (by omega)
    clear hJ dd q5
    as_aux_lemma=>
     repeat' (first|refine jx17 ?_|refine jy0 ?_ ?_|exact spF|refine spQ fun hq hq'=>?_|refine spN fun hn=>?_|fail)
     exact rt1 rfl rfl finS_p rfl
   ·have d3:decide ((3:Int) < (many:Int)+1)=false:=decide_eq_false (by omega)
    clear q5
    repeat' (first|refine jx17 ?_|refine jy0 ?_ ?_|exact spF|refine spQ fun hq hq'=>?_|refine spN fun hn=>?_|fail)
    refine aws_draws [(18,16),(32,16),(32,18)] mixed (by kernel_rfl) ?_
    iterate 32 (first|refine rkC (hk:=?_)|refine rkSH (hk:=?_)|refine rkF (hk:=?_)|refine rkU (hk:=?_))
    refine rkC (h:=lop_oc32 rfl inferInstance rfl rfl rfl dd rfl rfl rfl rfl rfl) (hro:=fun x hx=>by rcases kin2 hx with rfl|rfl<;>kernel_rfl) (hob:=fun p hp=>by
     rcases List.mem_cons.1 hp with rfl|hp
     ·show ((32:Nat),(16:Nat))∈[((18:Nat),(16:Nat)),(32,16),(32,18)];decide
     ·rw [List.mem_singleton] at hp;subst hp;show ((32:Nat),(18:Nat))∈[((18:Nat),(16:Nat)),(32,16),(32,18)];decide) (hk:=?_)
    repeat' (first|refine jx21 ?_|refine jy1 ?_ ?_|exact spF|refine spQ fun hq hq'=>?_|fail)
    as_aux_lemma=>
     repeat' (first|refine jx17 ?_|refine jy0 ?_ ?_|exact spF|refine spQ fun hq hq'=>?_|refine spN fun hn=>?_|fail)
     exact ⟨(i+1,many+1,b'),_,by dsimp only;omega,⟨by dsimp only;omega,by dsimp only;omega,hJ.le (Nat.le_refl _) (by dsimp only;omega)⟩,.refl,by exact frA⟩
  ·have d5:decide ((l.getD (i:Int).toNat default).kind=5)=false:=decide_eq_false q5
   rw [if_neg q5] at hJ
   have d3:decide ((3:Int) < (many:Int))=false:=decide_eq_false (by omega)
   clear q5
   repeat' (first|refine jx17 ?_|refine jy0 ?_ ?_|exact spF|refine spQ fun hq hq'=>?_|refine spN fun hn=>?_|fail)
   refine aws_draws [(18,16),(32,16),(32,18)] mixed (by kernel_rfl) ?_
   iterate 32 (first|refine rkC (hk:=?_)|refine rkSH (hk:=?_)|refine rkF (hk:=?_)|refine rkU (hk:=?_))
   refine rkC (h:=lop_oc32 rfl inferInstance rfl rfl rfl dd rfl rfl rfl rfl rfl) (hro:=fun x hx=>by rcases kin2 hx with rfl|rfl<;>kernel_rfl) (hob:=fun p hp=>by
    rcases List.mem_cons.1 hp with rfl|hp
    ·show ((32:Nat),(16:Nat))∈[((18:Nat),(16:Nat)),(32,16),(32,18)];decide
    ·rw [List.mem_singleton] at hp;subst hp;show ((32:Nat),(18:Nat))∈[((18:Nat),(16:Nat)),(32,16),(32,18)];decide) (hk:=?_)
   repeat' (first|refine jx21 ?_|refine jy1 ?_ ?_|exact spF|refine spQ fun hq hq'=>?_|fail)
   as_aux_lemma=>
    repeat' (first|refine jx17 ?_|refine jy0 ?_ ?_|exact spF|refine spQ fun hq hq'=>?_|refine spN fun hn=>?_|fail)
    exact ⟨(i+1,many,b'),_,by dsimp only;omega,⟨by dsimp only;omega,by dsimp only;omega,hJ.le (Nat.le_refl _) (by dsimp only;omega)⟩,.refl,by exact frA⟩
 ·have d1:decide ((i:Int) < (l.length:Int))=false:=decide_eq_false (by omega)
  have l1:b.out.length≤1000000:=by have:=hI.out;omega
  have l2:∀ h∈b.out,h.1.dig.length=32:=fun h hh=>(hI.msg h hh).d32
  have cm:=messages_w (goneF b.out 1099511627776) (fun x hx=>by
   obtain ⟨y,hy,rfl⟩:=List.mem_map.1 hx
   exact hI.msg y ((List.mem_filter.1 hy).1)) (by
   unfold goneF
   rw [List.length_map]
   exact Nat.le_trans (List.length_filter_le _ _) l1)
  haveI j2:∀ q g m:Nat,OC Tryz.prog 14 [.o (.ptr q g 0),.p (.i 1099511627776)] [(q,(m,some (bxM b)))] [] (m=g+1) (.p (.sl 40 ((goneF b.out 1099511627776).map mR) false)) [(q,(m,some (bxM ⟨waitF b.out 1099511627776,b.ans,b.lost⟩)))]:=fun q g m=>⟨fun h=>obOut_i.call ⟨h,l1,l2⟩⟩
  haveI j3:∀ q g m:Nat,OC Tryz.prog 15 [.o (.ptr q g 0),.p (.i 1099511627776)] [(q,(m,some (rxM b)))] [] (m=g+1) (.p (.sl 40 ((goneF b.out 1099511627776).map mR) false)) [(q,(m,some (rxM ⟨waitF b.out 1099511627776,b.ans,b.lost⟩)))]:=fun q g m=>⟨fun h=>rxOut_i.call ⟨h,l1,l2⟩⟩
  haveI j4:PC Tryz.prog 13 [.p (.sl 40 ((goneF b.out 1099511627776).map mR) false),.p (.sl 40 ((goneF b.out 1099511627776).map mR) false)] True (.p (.b true)):=⟨fun _=>cm⟩
  generalize goneF b.out 1099511627776=G at *
  generalize (⟨waitF b.out 1099511627776,b.ans,b.lost⟩:Bx)=b' at *
  haveI s1:PC Tryz.prog 16 [nilP] True (.tup []):=⟨fun _=>nShift_w⟩
  haveI s2:PC Tryz.prog 10 [nilP] True (.tup [.one (.p (.i 0)),.one (.p (.i 0))]):=⟨fun _=>nWaits_w⟩
  haveI s3:PC Tryz.prog 17 [nilP,.a (mN 0 0 0 0 0),.p (.i 0)] True (.p (.i 6)):=⟨fun _=>nSend_w⟩
  haveI s4:PC Tryz.prog 18 [nilP,.a [.p (.i 0),.p (.i 0),.p nilS],.p (.i 0)] True (.p (.i 6)):=⟨fun _=>nTell_w⟩
  haveI s5:PC Tryz.prog 11 [nilP] True (.p (.i 0)):=⟨fun _=>nLost_w⟩
  haveI s6:PC Tryz.prog 14 [nilP,.p (.i 5)] True (.p nilS):=⟨fun _=>nOut_w⟩
  haveI s7:PC Tryz.prog 19 [nilP,.p (.i 5)] True (.p nilS):=⟨fun _=>nTold_w⟩
  haveI z1:∀ c g n:Nat,OC Tryz.prog 16 [.o (.ptr c g 0)] [(c,(n,some (zbM nilS nilS)))] [] (n=g+1) (.tup []) [(c,(n,some (zbM nilS nilS)))]:=fun c g n=>zShift_i
  haveI z2:∀ c g n:Nat,OC Tryz.prog 18 [.o (.ptr c g 0),.a [.p (.i 0),.p (.i 0),.p nilS],.p (.i 0)] [(c,(n,some (zbM nilS nilS)))] [] (n=g+1) (.p (.i 6)) [(c,(n,some (zbM nilS nilS)))]:=fun c g n=>zTell_i
  haveI z3:∀ c g n:Nat,OC Tryz.prog 17 [.o (.ptr c g 0),.a (mN 0 0 0 0 0),.p (.i 0)] [(c,(n,some (zbM nilS nilS)))] [] (n=g+1) (.p (.i 6)) [(c,(n,some (zbM nilS nilS)))]:=fun c g n=>zSend_i
  haveI z4:∀ c g n:Nat,OC Tryz.prog 14 [.o (.ptr c g 0),.p (.i 5)] [(c,(n,some (zbM nilS nilS)))] [] (n=g+1) (.p (.sl 40 [] false)) [(c,(n,some (zbM (.sl 41 [] false) nilS)))]:=fun c g n=>zOut_i
  haveI z5:∀ c g n:Nat,OC Tryz.prog 19 [.o (.ptr c g 0),.p (.i 5)] [(c,(n,some (zbM (.sl 41 [] false) nilS)))] [] (n=g+1) (.p (.sl 3 [] false)) [(c,(n,some (zbM (.sl 41 [] false) (.sl 4 [] false))))]:=fun c g n=>zTold_i
  have n0:(!true)=false:=rfl
  have z0:([]:List (List PVal)).length=0:=rfl
  clear hI l1 l2 cm hX h3
  as_aux_lemma=>
   repeat' (first|refine jx17 ?_|refine jy0 ?_ ?_|exact spF|refine spQ fun hq hq'=>?_|refine spN fun hn=>?_|fail)
   exact rt1 rfl rfl finS_p rfl
end Go.Proofs.YtkgploeegbmofaaGreat.Wi
