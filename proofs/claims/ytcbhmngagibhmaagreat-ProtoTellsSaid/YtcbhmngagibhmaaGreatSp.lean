/- messages: what one law alone takes -/
import Derived.Test.YtcbhmngagibhmaaGreatPRA25
/- THE ABSTRACT WALK, part 7: the steps in the form in which walks take them; contracts as instances. -/
namespace Go.Aw
open Go Go.RowKit
set_option linter.unusedVariables false
set_option linter.unusedSimpArgs false
section steps
variable {C:Ctx} {ops:Array Oper} {o:Oper} {rest:List Oper} {K:St→Prop} {σ:St} {e:Eff} {ro:Nat→Bool}
theorem lop_build6 {T:TypeId} {k0 k1 k2 k3 k4 k5:Nat} {x0 x1 x2 x3 x4 x5:Operand} {s0 s1 s2 s3 s4 s5:SV} {fs:List (Nat × Nat)} {z:List Value} {cs:List AC} (ho:o.op=.build T #[(k0,x0),(k1,x1),(k2,x2),(k3,x3),(k4,x4),(k5,x5)]) (hF:TF C.P T fs) (hz:TZ C.P T z) (g0:σ.look x0=.s s0) (g1:σ.look x1=.s s1) (g2:σ.look x2=.s s2) (g3:σ.look x3=.s s3) (g4:σ.look x4=.s s4) (g5:σ.look x5=.s s5) (h1:z.all (·.oneCell')=true)
  (hb:bfill (fun i=>fs[i]?) (z.map fun v=>.p (.v v)) [(k0,s0.cells),(k1,s1.cells),(k2,s2.cells),(k3,s3.cells),(k4,s4.cells),(k5,s5.cells)]=some cs) (hd:dOk C o.dst=true):LOp C o σ ⟨.a cs,[]⟩ (fun _=>false):=lop_buildx ho hF hz (.cons ⟨rfl,_,g0,rfl⟩ (.cons ⟨rfl,_,g1,rfl⟩ (.cons ⟨rfl,_,g2,rfl⟩ (.cons ⟨rfl,_,g3,rfl⟩ (.cons ⟨rfl,_,g4,rfl⟩ (.cons ⟨rfl,_,g5,rfl⟩ (.nil))))))) h1 hb hd
variable {W:List (Nat × Nat)} {i:Nat}
end steps
end Go.Aw
namespace Go.Proofs.YtcbhmngagibhmaaGreat.Wi
open Go Go.RowKit Go.Aw Go.Aw.Cart Go.Aw.Tree Go.Proofs.YtcbhmngagibhmaaGreat.Ca Go.Proofs.YtcbhmngagibhmaaGreat.Rg
set_option linter.unusedVariables false
set_option linter.unusedSimpArgs false
set_option maxRecDepth 8000
set_option maxHeartbeats 4000000
theorem sameM_refl (a:Msg):sameM a a=true:=sameM_iff.2 rfl
namespace T3
end T3
open T3
end Go.Proofs.YtcbhmngagibhmaaGreat.Wi
namespace Go.Proofs.YtcbhmngagibhmaaGreat.Wi
open Go Go.RowKit Go.Aw Go.Aw.Cart Go.Aw.Tree Go.Proofs.YtcbhmngagibhmaaGreat.Ca Go.Proofs.YtcbhmngagibhmaaGreat.Rg
set_option linter.unusedVariables false
set_option linter.unusedSimpArgs false
set_option maxRecDepth 8000
set_option maxHeartbeats 4000000
namespace T7
end T7
open T7
theorem mwrite_no (m:Msg) (h:MIn m) (hr:rightM m=false):PCall Tryz.prog 12 [mV m] (.tup [.one (.p (.sl 1 (([]:List Nat).map bR) false)),.one (.p (.i 3))]):=by
 refine pcall_of Tryz.func12 rfl (fun w0 F S0 M0=>?_)
 have h32:(m.dig.map bcD).length=32:=by rw [List.length_map];exact h.d32
 haveI i0:PC Tryz.prog 15 [mV m] True (.p (.b false)):=⟨fun _=>by have:=mright_w m h;rwa [hr] at this⟩
 have d0:(!false)=true:=rfl
 as_aux_lemma=>
  repeat' (first|refine jx5 ?_|refine jy0 ?_ ?_|exact spF|refine spQ fun hq hq'=>?_|refine spN fun hn=>?_|fail)
  exact rt2 rfl rfl (.one .nil) rfl finS_p rfl
end Go.Proofs.YtcbhmngagibhmaaGreat.Wi
namespace Go.Proofs.YtcbhmngagibhmaaGreat.Wi
open Go Go.RowKit Go.Aw Go.Aw.Cart Go.Aw.Tree Go.Proofs.YtcbhmngagibhmaaGreat.Ca Go.Proofs.YtcbhmngagibhmaaGreat.Rg
set_option linter.unusedVariables false
set_option linter.unusedSimpArgs false
section
attribute [local irreducible] preS readL readM listB msgH rightM
theorem readM_err {b:List Nat} (h:¬ (readM b).2=0):readM b=(zeroM,3):=by
 rcases readM_cases b with ⟨k1,k2⟩ | ⟨- , - , -,k4⟩
 ·exact Prod.ext k1 k2
 ·rw [k4] at h;exact absurd rfl h
end
end Go.Proofs.YtcbhmngagibhmaaGreat.Wi
namespace Go.Proofs.YtcbhmngagibhmaaGreat.Wi
open Go Go.RowKit Go.Aw Go.Aw.Cart Go.Aw.Tree Go.Proofs.YtcbhmngagibhmaaGreat.Ca Go.Proofs.YtcbhmngagibhmaaGreat.Rg
set_option linter.unusedVariables false
set_option linter.unusedSimpArgs false
set_option maxRecDepth 8000
set_option maxHeartbeats 4000000
namespace V1
end V1
open V1
theorem asks_w (m:Msg):PCall Tryz.prog 19 [mV m] (.p (.b (decide (1≤m.kind)&&decide (m.kind≤3)))):=by
 refine pcall_of Tryz.func19 rfl (fun w0 F S0 M0=>?_)
 cases d1:decide (1≤m.kind) with
 | false=>
  rw [Bool.false_and]
  as_aux_lemma=>
   repeat' (first|refine jx5 ?_|refine jy0 ?_ ?_|exact spF|refine spQ fun hq hq'=>?_|refine spN fun hn=>?_|fail)
   exact rt1 rfl rfl finS_p rfl
 | true=>
  rw [Bool.true_and]
  as_aux_lemma=>
   repeat' (first|refine jx5 ?_|refine jy0 ?_ ?_|exact spF|refine spQ fun hq hq'=>?_|refine spN fun hn=>?_|fail)
   exact rt1 rfl rfl finS_p rfl
end Go.Proofs.YtcbhmngagibhmaaGreat.Wi
namespace Go.Aw
set_option linter.unusedVariables false
section ops
variable {C:Ctx} {o:Oper} {σ:St}
theorem lop_makeP {T e:TypeId} {x y:Operand} {sz by_:Nat} {ke:TK} {es be c:Nat} {z:List Value} {kx ky:IntKind} (ho:o.op=.makeSlice T x y) (hT:TI C.P T (.slice e) sz by_) (he:TI C.P e ke es be) (hz:TZ C.P e z) (hx:σ.look x=.p (.v (.int kx c))) (hy:σ.look y=.p (.v (.int ky c))) (hzl:z.length=es) (h0:0 < es) (h63:(c:Int)≤2147483648) (hby:(be:Int) * c≤281474976710656) (h1:z.all (·.oneCell')=true) (hd:dOk C o.dst=true) :
  LOp C o σ ⟨.p (.sl es (List.replicate c (z.map .v)) true),[]⟩ (fun _=>false):=
 lop_grow hd fun τ a w G hl hm' h=>by
  have e1:=val_of h ((hl x (by simp [ho,Op.operands])).trans hx)
  have e2:=val_of h ((hl y (by simp [ho,Op.operands])).trans hy)
  obtain ⟨dd,hdd,hkk⟩:=hT.undd
  have:dd=.slice e:=by cases dd<;>simp [TK.of] at hkk;rw [hkk]
  subst this
  obtain ⟨i,hi,his,hib⟩:=he.infoo
  have hzz:=hz.zero
  simp only [hi,Option.bind_some] at hzz
  cases hz0:i.zero with
  | none=>simp [hz0] at hzz
  | some zv=>
   simp only [hz0,Option.map_some,Option.some.injEq] at hzz
   have hr:=run_make (P:=C.P) w T e i zv hdd hi hz0 kx ky c c (by omega) (Int.le_refl _) (by rw [hib];exact hby) (by omega)
   simp only [Int.toNat_natCast] at hr
   have hzs:zv.cells.size=es:=by rw [← hzl,← hzz,Array.length_toList]
   refine ⟨.slice (some ⟨w.heap.size,0,none⟩) c c,w.alloc (.cells (madeCells zv.cells (c * i.size)) e),?_,Quiet.alloc _ _,?_⟩
   ·simp only [execOp,ho,e1,e2,Sem.run_bind,hr,Result.andThen_ok,Sem.run_pure]
   ·refine ⟨some ⟨w.heap.size,0,none⟩,c,?_,?_,?_,?_,.inr ⟨rfl,?_,madeCells zv.cells (c * i.size),e,(0,0),by simpa using heap_alloc_new w _,?_⟩⟩
    ·simp
    ·simp
    ·simp only [maxLen];omega
    ·simp
    ·simp
    ·intro q row hq
     rw [List.getElem?_replicate] at hq
     split at hq
     ·rename_i hlt
      obtain rfl:=Option.some.inj hq
      refine ⟨by rw [List.length_map,hzl],fun j p hp=>?_⟩
      rw [List.getElem?_map] at hp
      cases hj:z[j]? with
      | none=>rw [hj] at hp;cases hp
      | some v=>
       rw [hj] at hp
       obtain rfl:=Option.some.inj hp
       obtain ⟨hjl,hjv⟩:=List.getElem?_eq_some_iff.1 hj
       refine ⟨v,?_,rfl,List.all_eq_true.1 h1 v (List.mem_of_getElem? hj)⟩
       have hlt':q * es+j < c * i.size:=by
        rw [his]
        have:(q+1) * es≤c * es:=Nat.mul_le_mul_right _ hlt
        rw [Nat.add_mul,Nat.one_mul] at this
        omega
       have hmod:(q * es+j) % es=j:=by
        rw [Nat.mul_comm,Nat.mul_add_mod,Nat.mod_eq_of_lt (by omega)]
       rw [Nat.zero_add]
       have hjz:j < zv.cells.size:=by omega
       have hv:zv.cells[j]=v:=by
        have:zv.cells.toList[j]?=some v:=by rw [hzz];exact hj
        rw [Array.getElem?_toList] at this
        rw [Array.getElem?_eq_getElem hjz] at this
        exact Option.some.inj this
       unfold madeCells
       rw [Array.getElem?_map,Array.getElem?_range,if_pos hlt',Option.map_some,hzs,hmod,getElem!_pos zv.cells j hjz,hv]
     ·cases hq
end ops
end Go.Aw
namespace Go.Proofs.YtcbhmngagibhmaaGreat.Wi
open Go Go.RowKit Go.Aw Go.Aw.Cart Go.Aw.Tree Go.Proofs.YtcbhmngagibhmaaGreat.Ca Go.Proofs.YtcbhmngagibhmaaGreat.Rg
set_option linter.unusedVariables false
set_option linter.unusedSimpArgs false
set_option maxRecDepth 8000
set_option maxHeartbeats 4000000
def aD:List Nat:=5::List.replicate 31 0
def aM1:Msg:=⟨1,1,2,3,4,aD,[],[],[]⟩
def aM2:Msg:=⟨1,1,1,3,4,aD,[],[],[]⟩
def aM5:Msg:=⟨5,2,1,3,0,zeroD,[0],List.replicate 4 zeroD,[]⟩
theorem aD_ok:okB aD:=by intro c hc;simp [aD] at hc;omega
theorem aM1_in:MIn aM1:=⟨rfl,aD_ok,by decide,by decide,fun d hd=>(by cases hd),by decide,fun d hd=>(by cases hd),fun d hd=>(by cases hd)⟩
theorem aM2_in:MIn aM2:=⟨rfl,aD_ok,by decide,by decide,fun d hd=>(by cases hd),by decide,fun d hd=>(by cases hd),fun d hd=>(by cases hd)⟩
theorem zeroD_ok:okB zeroD:=fun c hc=>by rw [List.eq_of_mem_replicate hc];decide
theorem aM5_in:MIn aM5:=⟨rfl,zeroD_ok,by decide,by decide,fun d hd=>(by rw [List.eq_of_mem_replicate hd];exact ⟨rfl,zeroD_ok⟩),by decide,fun d hd=>(by cases hd),fun d hd=>(by cases hd)⟩
theorem aM1_r:rightM aM1=true:=by decide
theorem aM2_r:rightM aM2=false:=by decide
theorem aM5_r:rightM aM5=true:=by decide
theorem aM1_l:(msgB aM1).length=45:=by decide
theorem nil_no:readM []=(zeroM,3):=readM_err (by decide)
end Go.Proofs.YtcbhmngagibhmaaGreat.Wi
namespace Go.Proofs.YtcbhmngagibhmaaGreat.Wi
open Go Go.RowKit Go.Aw Go.Aw.Cart Go.Aw.Tree Go.Proofs.YtcbhmngagibhmaaGreat.Ca Go.Proofs.YtcbhmngagibhmaaGreat.Rg
set_option linter.unusedVariables false
set_option linter.unusedSimpArgs false
set_option maxRecDepth 8000
set_option maxHeartbeats 4000000
open V1
theorem alive26_w:PCall Tryz.prog 10 [] (.p (.b true)):=by
 refine pcall_of Tryz.func10 rfl (fun w0 F S0 M0=>?_)
 obtain ⟨D,hD⟩:∃ D,D=aD:=⟨_,rfl⟩
 obtain ⟨G,hG⟩:∃ G,G=List.replicate 4 zeroD:=⟨_,rfl⟩
 obtain ⟨B,hB⟩:∃ B,B=msgB aM1:=⟨_,rfl⟩
 have h32:(D.map bcD).length=32:=by rw [hD];rfl
 have hD32:D.length=32:=by rw [hD];rfl
 have z32:(zeroD.map bcD).length=32:=rfl
 have k1:PCall Tryz.prog 12 [.a (.p (.i 1)::.p (.i 1)::.p (.i 2)::.p (.i 3)::.p (.i 4)::(D.map bcD++[.p (.v (.slice none 0 0)),.p (.v (.slice none 0 0)),.p (.v (.slice none 0 0))]))] (.tup [.one (.p (.sl 1 (B.map bR) false)),.one (.p (.i 0))]):=by
  rw [hD,hB]
  exact (mwrite_ok aM1 aM1_in aM1_r).ent (.cons (ent_m PE.nil PE.nil PE.nil) .nil)
 have k2:PCall Tryz.prog 12 [.a (.p (.i 1)::.p (.i 1)::.p (.i 1)::.p (.i 3)::.p (.i 4)::(D.map bcD++[.p (.v (.slice none 0 0)),.p (.v (.slice none 0 0)),.p (.v (.slice none 0 0))]))] (.tup [.one (.p (.sl 1 (([]:List Nat).map bR) false)),.one (.p (.i 3))]):=by
  rw [hD]
  exact (mwrite_no aM2 aM2_in aM2_r).ent (.cons (ent_m PE.nil PE.nil PE.nil) .nil)
 have k3:PCall Tryz.prog 13 [.p (.sl 1 (B.map bR) false)] (.tup [.agg (.p (.i 1)::.p (.i 1)::.p (.i 2)::.p (.i 3)::.p (.i 4)::(D.map bcD++[.p (.sl 1 (([]:List Int).map iRw) false),.p (.sl 32 (([]:List (List Nat)).map dRw) false),.p (.sl 10 (([]:List Kd).map kR) false)])),.one (.p (.i 0))]):=by
  have h:=mread_w B (by rw [hB];exact msgB_ok aM1_in) (by rw [hB,aM1_l];decide)
  rw [hB,mread_back aM1_in aM1_r] at h
  rw [hB,hD]
  exact h
 have k4:PCall Tryz.prog 13 [.p (.v (.slice none 0 0))] (.tup [.agg (mL zeroM),.one (.p (.i 3))]):=by
  have h:=mread_w [] (fun c hc=>by cases hc) (by decide)
  rw [nil_no] at h
  exact h.ent (.cons Ent1.nil .nil)
 have e5:Ent1 (.a (.p (.i 5)::.p (.i 2)::.p (.i 1)::.p (.i 3)::.p (.i 0)::(zeroD.map bcD++[.p (.sl 1 [[.i 0]] true),.p (.sl 32 (G.map dRw) true),.p (.v (.slice none 0 0))]))) (mV aM5):=by
  rw [hG]
  exact ent_m PE.ex PE.ex PE.nil
 have k5:PCall Tryz.prog 15 [.a (.p (.i 5)::.p (.i 2)::.p (.i 1)::.p (.i 3)::.p (.i 0)::(zeroD.map bcD++[.p (.sl 1 [[.i 0]] true),.p (.sl 32 (G.map dRw) true),.p (.v (.slice none 0 0))]))] (.p (.b true)):=by
  have h:=mright_w aM5 aM5_in
  rw [aM5_r] at h
  exact h.ent (.cons e5 .nil)
 have k6:PCall Tryz.prog 19 [.a (.p (.i 5)::.p (.i 2)::.p (.i 1)::.p (.i 3)::.p (.i 0)::(zeroD.map bcD++[.p (.sl 1 [[.i 0]] true),.p (.sl 32 (G.map dRw) true),.p (.v (.slice none 0 0))]))] (.p (.b false)):=(asks_w aM5).ent (.cons e5 .nil)
 have k7:PCall Tryz.prog 19 [.a (.p (.i 1)::.p (.i 1)::.p (.i 2)::.p (.i 3)::.p (.i 4)::(D.map bcD++[.p (.sl 1 (([]:List Int).map iRw) false),.p (.sl 32 (([]:List (List Nat)).map dRw) false),.p (.sl 10 (([]:List Kd).map kR) false)]))] (.p (.b true)):=by
  rw [hD]
  exact asks_w aM1
 have k8:PCall Tryz.prog 17 [.a (.p (.i 5)::.p (.i 2)::.p (.i 1)::.p (.i 3)::.p (.i 0)::(zeroD.map bcD++[.p (.sl 1 [[.i 0]] true),.p (.sl 32 (G.map dRw) true),.p (.v (.slice none 0 0))])),.a (.p (.i 5)::.p (.i 2)::.p (.i 1)::.p (.i 3)::.p (.i 0)::(zeroD.map bcD++[.p (.sl 1 [[.i 0]] true),.p (.sl 32 (G.map dRw) true),.p (.v (.slice none 0 0))]))] (.p (.b true)):=by
  have h:=psame_w aM5 aM5 aM5_in aM5_in
  rw [sameM_refl] at h
  exact h.ent (.cons e5 (.cons e5 .nil))
 haveI i1:PC _ _ _ True _:=⟨fun _=>k1⟩
 haveI i2:PC _ _ _ True _:=⟨fun _=>k2⟩
 haveI i3:PC _ _ _ True _:=⟨fun _=>k3⟩
 haveI i4:PC _ _ _ True _:=⟨fun _=>k4⟩
 haveI i5:PC _ _ _ True _:=⟨fun _=>k5⟩
 haveI i6:PC _ _ _ True _:=⟨fun _=>k6⟩
 haveI i7:PC _ _ _ True _:=⟨fun _=>k7⟩
 haveI i8:PC _ _ _ True _:=⟨fun _=>k8⟩
 clear k1 k2 k3 k4 k5 k6 k7 k8 e5
 have lB:B.length=45:=by rw [hB];exact aM1_l
 have dB:decide ((B.length:Int)=45)=true:=decide_eq_true (by omega)
 have dD:decide (D=aD)=true:=decide_eq_true hD
 have n0:(!false)=true:=rfl
 clear hB
 repeat' (first|refine jx14 ?_|refine jy0 ?_ ?_|exact spF|refine spQ fun hq hq'=>?_|refine spN fun hn=>?_|fail)
 refine rn_any (gd_n rfl rfl) rfl (show LOp _ _ _ ⟨.a (.p (.i 1)::.p (.i 1)::.p (.i 2)::.p (.i 3)::.p (.i 4)::(D.map bcD++[.p (.v (.slice none 0 0)),.p (.v (.slice none 0 0)),.p (.v (.slice none 0 0))])),[]⟩ _ from by exact lop_build6 (s5:=.agg (D.map bcD)) rfl inferInstance inferInstance rfl rfl rfl rfl rfl (by rw [hD];rfl) (by decide) (by rw [hD];rfl) rfl) ?_
 repeat' (first|refine jx14 ?_|refine jy0 ?_ ?_|exact spF|refine spQ fun hq hq'=>?_|refine spN fun hn=>?_|fail)
 refine rn_any (gd_n rfl rfl) rfl (show LOp _ _ _ ⟨.p (.sl 32 (G.map dRw) true),[]⟩ _ from by rw [hG];exact lop_makeP (c:=4) (z:=List.replicate 32 (.int .u8 0)) rfl inferInstance inferInstance inferInstance rfl rfl rfl (by decide) (by decide) (by decide) (by decide) rfl) ?_
 refine rn_any (gd_n rfl rfl) rfl (show LOp _ _ _ ⟨.a (.p (.i 5)::.p (.i 2)::.p (.i 1)::.p (.i 3)::.p (.i 0)::(zeroD.map bcD++[.p (.sl 1 [[.i 0]] true),.p (.sl 32 (G.map dRw) true),.p (.v (.slice none 0 0))])),[]⟩ _ from by exact lop_build6 rfl inferInstance inferInstance rfl rfl rfl rfl rfl rfl (by decide) rfl rfl) ?_
 iterate 20 (refine jx14 ?_)
 refine rn_any (by first|exact gd_n rfl rfl|exact gd_t rfl rfl rfl rfl|exact gd_t rfl rfl rfl (by assumption)) rfl (lop_eq_k (l:=D) (m:=aD) rfl inferInstance rfl rfl hD32 rfl ⟨_,_,_,inferInstance,rfl⟩ rfl) ?_
 as_aux_lemma=>
  repeat' (first|refine jx14 ?_|refine jy0 ?_ ?_|exact spF|refine spQ fun hq hq'=>?_|refine spN fun hn=>?_|fail)
  exact rt1 rfl rfl finS_p rfl
end Go.Proofs.YtcbhmngagibhmaaGreat.Wi
