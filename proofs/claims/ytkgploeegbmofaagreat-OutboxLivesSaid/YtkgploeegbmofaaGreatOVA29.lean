/- messages read -/
import Derived.Test.YtkgploeegbmofaaGreatOVA17
import Derived.Test.YtkgploeegbmofaaGreatOVA21
namespace Go.Proofs.YtkgploeegbmofaaGreat.Wi
open Go Go.RowKit Go.Aw Go.Aw.Cart Go.Aw.Tree Go.Proofs.YtkgploeegbmofaaGreat.Ca Go.Proofs.YtkgploeegbmofaaGreat.Rg
set_option linter.unusedVariables false
set_option linter.unusedSimpArgs false
set_option maxRecDepth 8000
set_option maxHeartbeats 4000000
def hdS:RS→(Int × Int × Int × Int × Int) × RS:=bindS (smallS 7) fun k=>bindS (smallS 8) fun f=>bindS (smallS 8) fun t=>bindS (smallS 1099511627776) fun s=>bindS (smallS 7) fun p=>pureS (k,f,t,s,p)
theorem par_hd:Par hdS:=par_bind (par_small _) fun _=>par_bind (par_small _) fun _=>par_bind (par_small _) fun _=>par_bind (par_small _) fun _=>par_bind (par_small _) fun _=>par_pure _
def dgS (k:Int):RS→List Nat × RS:=if k=1 then digS else pureS zeroD
theorem par_dg (k:Int):Par (dgS k):=by unfold dgS;split;exact par_dig;exact par_pure _
def preS:RS→Msg × RS:=bindS hdS fun h=>bindS (dgS h.1) fun d=>bindS lstS fun l=>pureS ⟨h.1,h.2.1,h.2.2.1,h.2.2.2.1,h.2.2.2.2,d,l.1,l.2,[]⟩
theorem par_pre:Par preS:=par_bind par_hd fun _=>par_bind (par_dg _) fun _=>par_bind par_lst fun _=>par_pure _
def zeroM:Msg:=⟨0,0,0,0,0,zeroD,[],[],[]⟩
def readM (b:List Nat):Msg × Int:=if (preS (b,0)).2.2≠0∨(readL (preS (b,0)).2.1).2≠0∨rightM { (preS (b,0)).1 with kds:=(readL (preS (b,0)).2.1).1 }=false then (zeroM,3) else ({ (preS (b,0)).1 with kds:=(readL (preS (b,0)).2.1).1 },0)
theorem pre_at {r r1 r2 r3 r4 r5 r6 r7:RS} {k f t s p:Int} {d:List Nat} {P:List Int} {G:List (List Nat)} (h1:smallS 7 r=(k,r1)) (h2:smallS 8 r1=(f,r2)) (h3:smallS 8 r2=(t,r3)) (h4:smallS 1099511627776 r3=(s,r4)) (h5:smallS 7 r4=(p,r5)) (h6:dgS k r5=(d,r6)) (h7:lstS r6=((P,G),r7)):preS r=(⟨k,f,t,s,p,d,P,G,[]⟩,r7):=by
 simp only [preS,hdS,bindS,pureS,h1,h2,h3,h4,h5,h6,h7]
theorem readL_ok (b:List Nat) (hb:okB b) (hbl:b.length≤1000000000):((readL b).2=0∨(readL b).2=3)∧(readL b).1.length≤2000∧∀ k∈(readL b).1,KdI k∧k.2.2.length≤400:=by
 unfold readL
 split
 ·exact ⟨.inr rfl,by simp,fun k hk=>by cases hk⟩
 ·refine ⟨.inl rfl,?_,?_⟩
  ·rw [listS_eq]
   have h1:=many_len kdS (smallS 2000 (b,0)).2 (smallS 2000 (b,0)).1.toNat
   have h2:=small_le (most:=2000) (by decide) (b,0)
   dsimp only
   omega
  ·rw [listS_eq]
   exact many_all par_kd (Q:=fun e=>KdI e∧e.2.2.length≤400) kd_fit _ ((par_small 2000).rd (r:=(b,0)) ⟨hb,hbl⟩) _
theorem dgS_fit (k:Int) (r:RS) (h:rdOk r):(dgS k r).1.length=32∧okB (dgS k r).1:=by
 unfold dgS
 split
 ·exact ⟨dig_len r,dig_ok r h⟩
 ·exact ⟨rfl,fun c hc=>by rw [List.eq_of_mem_replicate hc];decide⟩
theorem ren_mb (ρ:Rn) {ty:TypeId} {k f t s p x y z:PVal} {d:List Nat}:MO.ren ρ (.box ty (.p k::.p f::.p t::.p s::.p p::(d.map bcD++[.p x,.p y,.p z])))=.box ty (.p k::.p f::.p t::.p s::.p p::(d.map bcD++[.p x,.p y,.p z])):=by
 show MO.box ty (List.map _ _)=_
 simp only [List.map_cons,List.map_append,List.map_map,List.map_nil]
 rfl
theorem suffix_drop {b l:List Nat} (h:l <:+ b):b.drop (b.length - l.length)=l:=(List.suffix_iff_eq_drop.1 h).symm
open T4
attribute [local irreducible] smallS digS lstS readL
theorem mread_w (b:List Nat) (hb:okB b) (hbl:b.length≤1000000000):PCall Tryz.prog 49 [.p (.sl 1 (b.map bR) false)] (.tup [.agg (mL (readM b).1),.one (.p (.i (readM b).2))]):=by
 refine pcall_of Tryz.func49 rfl (fun w0 F S0 M0=>?_)
 obtain ⟨r0,hr0⟩:∃ r0:RS,r0=(b,0):=⟨_,rfl⟩
 have o0:rdOk r0:=by rw [hr0];exact ⟨hb,hbl⟩
 obtain ⟨k,r1,h1⟩:=pr_ex (smallS 7 r0)
 have o1:rdOk r1:=by have:=(par_small 7).rd o0;rwa [h1] at this
 obtain ⟨f,r2,h2⟩:=pr_ex (smallS 8 r1)
 have o2:rdOk r2:=by have:=(par_small 8).rd o1;rwa [h2] at this
 obtain ⟨t,r3,h3⟩:=pr_ex (smallS 8 r2)
 have o3:rdOk r3:=by have:=(par_small 8).rd o2;rwa [h3] at this
 obtain ⟨s,r4,h4⟩:=pr_ex (smallS 1099511627776 r3)
 have o4:rdOk r4:=by have:=(par_small 1099511627776).rd o3;rwa [h4] at this
 obtain ⟨p,r5,h5⟩:=pr_ex (smallS 7 r4)
 have o5:rdOk r5:=by have:=(par_small 7).rd o4;rwa [h5] at this
 obtain ⟨d,r6,h6⟩:=pr_ex (dgS k r5)
 have o6:rdOk r6:=by have:=(par_dg k).rd o5;rwa [h6] at this
 have dfit:=dgS_fit k r5 o5
 rw [h6] at dfit
 obtain ⟨PG,r7,h7⟩:=pr_ex (lstS r6)
 obtain ⟨P,G⟩:=PG
 have o7:rdOk r7:=by have:=par_lst.rd o6;rwa [h7] at this
 have lfit:=lst_fit r6 o6
 rw [h7] at lfit
 dsimp only at dfit lfit
 obtain ⟨d32,dok⟩:=dfit
 obtain ⟨pl,gl,gd⟩:=lfit
 have hpre:=pre_at h1 h2 h3 h4 h5 h6 h7
 have suf:r7.1 <:+ b:=by
  have:=par_pre.suf r0
  rw [hpre,hr0] at this
  exact this
 have hdr:=suffix_drop suf
 have hsl:=suf.length_le
 have cL:=lists_o 0 0 r6 o6 (.i k) (.i f) (.i t) (.i s) (.i p) (.v (.slice none 0 0)) d d32
 rw [h7] at cL
 dsimp only at cL
 have cL2:OCAt Tryz.prog 94 [.o (.ptr 9 0 0),.o (.ptr 5 0 0)] [(9,(1,some (rdM r6))),(5,(1,some (.box 38 (.p (.i k)::.p (.i f)::.p (.i t)::.p (.i s)::.p (.i p)::(d.map bcD++[.p (.v (.slice none 0 0)),.p (.v (.slice none 0 0)),.p (.v (.slice none 0 0))])))))] [] (.tup [])
   [(9,(1,some (rdM r7))),(5,(1,some (.box 38 (.p (.i k)::.p (.i f)::.p (.i t)::.p (.i s)::.p (.i p)::(d.map bcD++[.p (.sl 1 (P.map iRw) false),.p (.sl 32 (G.map dRw) false),.p (.v (.slice none 0 0))])))))]:=by
  have:=cL.two 9 5 (by decide)
  simp only [Option.map_some,ren_mb] at this
  exact this
 have lok:=readL_ok r7.1 o7.1 o7.2
 have hrm:readM b=if r7.2≠0∨(readL r7.1).2≠0∨rightM ⟨k,f,t,s,p,d,P,G,(readL r7.1).1⟩=false then (zeroM,3) else (⟨k,f,t,s,p,d,P,G,(readL r7.1).1⟩,0):=by
  unfold readM
  rw [← hr0,hpre]
 rw [hrm]
 clear hrm hpre
 have h32:(d.map bcD).length=32:=by rw [List.length_map];exact d32
 have z32:(zeroD.map bcD).length=32:=rfl
 haveI j1:∀ q g m:Nat,OC Tryz.prog 92 [.o (.ptr q g 0),.p (.i 7)] [(q,(m,some (rdM r0)))] [] (m=g+1) (.p (.i k)) [(q,(m,some (rdM r1)))]:=fun q g m=>⟨fun h=>by obtain rfl:=h;have:=(small_o g r0 7 (by decide) o0.1 o0.2).one q;rwa [h1] at this⟩
 haveI j2:∀ q g m:Nat,OC Tryz.prog 92 [.o (.ptr q g 0),.p (.i 8)] [(q,(m,some (rdM r1)))] [] (m=g+1) (.p (.i f)) [(q,(m,some (rdM r2)))]:=fun q g m=>⟨fun h=>by obtain rfl:=h;have:=(small_o g r1 8 (by decide) o1.1 o1.2).one q;rwa [h2] at this⟩
 haveI j3:∀ q g m:Nat,OC Tryz.prog 92 [.o (.ptr q g 0),.p (.i 8)] [(q,(m,some (rdM r2)))] [] (m=g+1) (.p (.i t)) [(q,(m,some (rdM r3)))]:=fun q g m=>⟨fun h=>by obtain rfl:=h;have:=(small_o g r2 8 (by decide) o2.1 o2.2).one q;rwa [h3] at this⟩
 haveI j4:∀ q g m:Nat,OC Tryz.prog 92 [.o (.ptr q g 0),.p (.i 1099511627776)] [(q,(m,some (rdM r3)))] [] (m=g+1) (.p (.i s)) [(q,(m,some (rdM r4)))]:=fun q g m=>⟨fun h=>by obtain rfl:=h;have:=(small_o g r3 1099511627776 (by decide) o3.1 o3.2).one q;rwa [h4] at this⟩
 haveI j5:∀ q g m:Nat,OC Tryz.prog 92 [.o (.ptr q g 0),.p (.i 7)] [(q,(m,some (rdM r4)))] [] (m=g+1) (.p (.i p)) [(q,(m,some (rdM r5)))]:=fun q g m=>⟨fun h=>by obtain rfl:=h;have:=(small_o g r4 7 (by decide) o4.1 o4.2).one q;rwa [h5] at this⟩
 haveI j0:∀ c m:Nat,OC Tryz.prog 91 [.p (.sl 1 (b.map bR) false)] [] [(c,m)] True (.o (.ptr c m 0)) [(c,(m+1,some (rdM r0)))]:=fun c m=>⟨fun _=>by rw [hr0];exact (from_o b false hbl).fresh1 c m⟩
 clear h1 h2 h3 h4 h5 h7 o0 o1 o2 o3 o4 o6 hr0 cL suf
 repeat' (first|refine jx5 ?_|fail)
 refine aws_mid (fun _:Unit=>True) (fun _=>[(0,.p (.sl 1 (b.map bR) false)),(4,.o (.ptr 9 0 0)),(5,.o (.ptr 5 0 0)),(2,.o (.ptr 2 0 0))]) (fun _=>[(9,(1,some (rdM r6))),(5,(1,some (.box 38 (.p (.i k)::.p (.i f)::.p (.i t)::.p (.i s)::.p (.i p)::(d.map bcD++[.p (.v (.slice none 0 0)),.p (.v (.slice none 0 0)),.p (.v (.slice none 0 0))]))))),(2,(1,some (.box 38 (.p (.i 0)::.p (.i 0)::.p (.i 0)::.p (.i 0)::.p (.i 0)::(zeroD.map bcD++[.p (.v (.slice none 0 0)),.p (.v (.slice none 0 0)),.p (.v (.slice none 0 0))])))))]) ?_ ?_
 ·by_cases q1:k=1
  ·have d1:decide (k=1)=true:=decide_eq_true q1
   have e:dgS k r5=digS r5:=by unfold dgS;rw [if_pos q1]
   rw [e] at h6
   haveI j6:∀ q g m:Nat,OC Tryz.prog 93 [.o (.ptr q g 0)] [(q,(m,some (rdM r5)))] [] (m=g+1) (dgV d) [(q,(m,some (rdM r6)))]:=fun q g m=>⟨fun h=>by obtain rfl:=h;have:=(rdig_o g r5).one q;rw [ren_dgV,h6] at this;exact this⟩
   clear h6 e o5
   as_aux_lemma=>
    repeat' (first|refine jx14 ?_|refine jy0 ?_ ?_|exact spF|refine spQ fun hq hq'=>?_|refine spN fun hn=>?_|fail)
    exact ⟨(),trivial,by exact knA,by exact knA⟩
  ·have d1:decide (k=1)=false:=decide_eq_false q1
   have e:dgS k r5=(zeroD,r5):=by unfold dgS;rw [if_neg q1];rfl
   rw [e] at h6
   obtain ⟨rfl,rfl⟩:=Prod.mk.inj h6
   clear h6 e o5
   as_aux_lemma=>
    repeat' (first|refine jx14 ?_|refine jy0 ?_ ?_|exact spF|refine spQ fun hq hq'=>?_|refine spN fun hn=>?_|fail)
    exact ⟨(),trivial,by exact knA,by exact knA⟩
 rintro ⟨⟩ ν -
 clear h6 o5 j0 j1 j2 j3 j4 j5
 obtain ⟨M,hM⟩:∃ M,M=(readL r7.1).1:=⟨_,rfl⟩
 obtain ⟨e,he⟩:∃ e,e=(readL r7.1).2:=⟨_,rfl⟩
 rw [← hM,← he] at lok
 rw [← hM,← he]
 obtain ⟨le,lM,kM⟩:=lok
 have hin:MIn ⟨k,f,t,s,p,d,P,G,M⟩:=⟨d32,dok,by show P.length≤_;omega,by show G.length≤_;omega,gd,by show M.length≤_;omega,fun k hk=>(kM k hk).1,fun k hk=>by have:=(kM k hk).2;omega⟩
 have cR:=mright_w _ hin
 generalize rightM ⟨k,f,t,s,p,d,P,G,M⟩=R at cR ⊢
 haveI jR:PC Tryz.prog 32 [.a (.p (.i k)::.p (.i f)::.p (.i t)::.p (.i s)::.p (.i p)::(d.map bcD++[.p (.sl 1 (P.map iRw) false),.p (.sl 32 (G.map dRw) false),.p (.sl 10 (M.map kR) false)]))] True (.p (.b R)):=⟨fun _=>cR⟩
 clear cR hin kM gd
 by_cases hz:r7.2=0
 ·have cRL:=readAll_w r7.1 false o7.1 o7.2
  rw [← hM,← he] at cRL
  have hN:((b.length:Int) - (r7.1.length:Int)).toNat=b.length - r7.1.length:=by omega
  have cA:PC Tryz.prog 95 [.p (.sl 1 ((b.drop ((b.length:Int) - (r7.1.length:Int)).toNat).map bR) false)] True (.tup [.one (.p (.sl 10 (M.map kR) false)),.one (.p (.i e))]):=⟨fun _=>by rw [hN,hdr];exact cRL⟩
  haveI jL:∀ q g m:Nat,OC Tryz.prog 96 [.o (.ptr q g 0)] [(q,(m,some (rdM r7)))] [] (m=g+1) (.p (.i (r7.1.length:Int))) [(q,(m,some (rdM r7)))]:=fun q g m=>⟨fun h=>by obtain rfl:=h;have:=(left_o g r7).one q;rwa [if_pos hz] at this⟩
  have hlo2:0≤(b.length:Int) - (r7.1.length:Int):=by omega
  have hhi:(b.length:Int) - (r7.1.length:Int)≤(b.length:Int):=by omega
  have d2:decide (r7.2≠0)=false:=decide_eq_false fun q=>q hz
  clear cRL hdr hM he o7
  haveI:=cA
  rcases le with rfl|rfl
  ·cases R with
   | true=>
    rw [if_neg (by intro h;rcases h with h|h|h;exact h hz;exact h rfl;cases h)]
    repeat' (first|refine jx14 ?_|refine jy0 ?_ ?_|exact spF|refine spQ fun hq hq'=>?_|refine spN fun hn=>?_|fail)
    refine rn_any (gd_n rfl rfl) rfl (lop_ocall rfl inferInstance (.cons rfl (.cons rfl .nil)) cL2 (by intro p hp;simp only [List.mem_cons,List.not_mem_nil,or_false] at hp;rcases hp with rfl|rfl<;>rfl) (by intro p hp;cases hp) (by intro p hp;simp only [List.mem_cons,List.not_mem_nil,or_false] at hp;rcases hp with rfl|rfl<;>rfl) (by intro p hp;cases hp) rfl) ?_
    as_aux_lemma=>
     repeat' (first|refine jx14 ?_|refine jy0 ?_ ?_|exact spF|refine spQ fun hq hq'=>?_|refine spN fun hn=>?_|fail)
     exact rc2 rfl rfl rfl rfl rfl (mlen h32) (finM .p .p .p) rfl finS_p rfl
   | false=>
    rw [if_pos (.inr (.inr rfl))]
    repeat' (first|refine jx14 ?_|refine jy0 ?_ ?_|exact spF|refine spQ fun hq hq'=>?_|refine spN fun hn=>?_|fail)
    refine rn_any (gd_n rfl rfl) rfl (lop_ocall rfl inferInstance (.cons rfl (.cons rfl .nil)) cL2 (by intro p hp;simp only [List.mem_cons,List.not_mem_nil,or_false] at hp;rcases hp with rfl|rfl<;>rfl) (by intro p hp;cases hp) (by intro p hp;simp only [List.mem_cons,List.not_mem_nil,or_false] at hp;rcases hp with rfl|rfl<;>rfl) (by intro p hp;cases hp) rfl) ?_
    as_aux_lemma=>
     repeat' (first|refine jx14 ?_|refine jy0 ?_ ?_|exact spF|refine spQ fun hq hq'=>?_|refine spN fun hn=>?_|fail)
     exact rc2 rfl rfl rfl rfl rfl rfl (finM (d:=zeroD) .nil .nil .nil) rfl finS_p rfl
  ·rw [if_pos (.inr (.inl (by decide)))]
   repeat' (first|refine jx14 ?_|refine jy0 ?_ ?_|exact spF|refine spQ fun hq hq'=>?_|refine spN fun hn=>?_|fail)
   refine rn_any (gd_n rfl rfl) rfl (lop_ocall rfl inferInstance (.cons rfl (.cons rfl .nil)) cL2 (by intro p hp;simp only [List.mem_cons,List.not_mem_nil,or_false] at hp;rcases hp with rfl|rfl<;>rfl) (by intro p hp;cases hp) (by intro p hp;simp only [List.mem_cons,List.not_mem_nil,or_false] at hp;rcases hp with rfl|rfl<;>rfl) (by intro p hp;cases hp) rfl) ?_
   as_aux_lemma=>
    repeat' (first|refine jx14 ?_|refine jy0 ?_ ?_|exact spF|refine spQ fun hq hq'=>?_|refine spN fun hn=>?_|fail)
    exact rc2 rfl rfl rfl rfl rfl rfl (finM (d:=zeroD) .nil .nil .nil) rfl finS_p rfl
 ·rw [if_pos (.inl hz)]
  have cRL:=readAll_w (b.drop ((b.length:Int) - 0).toNat) false (fun c hc=>hb c (List.mem_of_mem_drop hc)) (by rw [List.length_drop];omega)
  generalize (readL (b.drop ((b.length:Int) - 0).toNat)).1=M2 at cRL
  generalize (readL (b.drop ((b.length:Int) - 0).toNat)).2=e2 at cRL
  haveI jA:PC Tryz.prog 95 [.p (.sl 1 ((b.drop ((b.length:Int) - 0).toNat).map bR) false)] True (.tup [.one (.p (.sl 10 (M2.map kR) false)),.one (.p (.i e2))]):=⟨fun _=>cRL⟩
  haveI jL:∀ q g m:Nat,OC Tryz.prog 96 [.o (.ptr q g 0)] [(q,(m,some (rdM r7)))] [] (m=g+1) (.p (.i 0)) [(q,(m,some (rdM r7)))]:=fun q g m=>⟨fun h=>by obtain rfl:=h;have:=(left_o g r7).one q;rwa [if_neg hz] at this⟩
  have d2:decide (r7.2≠0)=true:=decide_eq_true hz
  clear cRL hdr hM he o7
  repeat' (first|refine jx14 ?_|refine jy0 ?_ ?_|exact spF|refine spQ fun hq hq'=>?_|refine spN fun hn=>?_|fail)
  refine rn_any (gd_n rfl rfl) rfl (lop_ocall rfl inferInstance (.cons rfl (.cons rfl .nil)) cL2 (by intro p hp;simp only [List.mem_cons,List.not_mem_nil,or_false] at hp;rcases hp with rfl|rfl<;>rfl) (by intro p hp;cases hp) (by intro p hp;simp only [List.mem_cons,List.not_mem_nil,or_false] at hp;rcases hp with rfl|rfl<;>rfl) (by intro p hp;cases hp) rfl) ?_
  as_aux_lemma=>
   repeat' (first|refine jx14 ?_|refine jy0 ?_ ?_|exact spF|refine spQ fun hq hq'=>?_|refine spN fun hn=>?_|fail)
   exact rc2 rfl rfl rfl rfl rfl rfl (finM (d:=zeroD) .nil .nil .nil) rfl finS_p rfl
end Go.Proofs.YtkgploeegbmofaaGreat.Wi
