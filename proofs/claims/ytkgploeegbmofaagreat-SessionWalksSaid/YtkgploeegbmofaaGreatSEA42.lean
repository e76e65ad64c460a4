/- sessions: what lives (27), plainly -/
import Derived.Test.YtkgploeegbmofaaGreatSEA30
import Derived.Test.YtkgploeegbmofaaGreatSEA36
import Derived.Test.YtkgploeegbmofaaGreatSEA38
import Derived.Test.YtkgploeegbmofaaGreatSEA41
import Derived.Test.YtkgploeegbmofaaGreatSEA29
namespace Go.Proofs.YtkgploeegbmofaaGreat.Wi
open Go Go.RowKit Go.Aw Go.Aw.Sha Go.Aw.Cart Go.Aw.Tree Go.Aw.Clash Go.Proofs.YtkgploeegbmofaaGreat.Ca Go.Proofs.YtkgploeegbmofaaGreat.Rg
set_option linter.unusedVariables false
set_option linter.unusedSimpArgs false
set_option maxRecDepth 8000
set_option maxHeartbeats 4000000
theorem kz1:sum ([1]++leafD [0]++leafD [0]++leafD [0]++leafD [0])≠zeroD:=by decide +kernel
theorem kz4:sum ([1]++leafD [0]++leafD (listB [kd1])++leafD [0]++leafD [0])≠zeroD:=by decide +kernel
attribute [local irreducible] sum
def l27:List Kd:=[kd1]
theorem l27_ok:KOk l27 where
 few:=by decide
 up:=.cons (fun b hb=>by cases hb) .nil
 key:=by intro e he;simp only [l27,List.mem_cons,List.not_mem_nil,or_false] at he;rw [he];decide
 cart:=by
  intro e he
  simp only [l27,List.mem_cons,List.not_mem_nil,or_false] at he
  rw [he]
  exact rightF_iff.2 ⟨by decide,by decide,by decide⟩
theorem l27_in:LIn l27 where
 len:=by decide
 kd:=by
  intro e he
  simp only [l27,List.mem_cons,List.not_mem_nil,or_false] at he
  rw [he]
  exact ⟨by intro c hc;simp [kd1] at hc;omega,by decide,⟨rfl,by decide⟩,by decide⟩
 few:=by
  intro e he
  simp only [l27,List.mem_cons,List.not_mem_nil,or_false] at he
  rw [he];decide
theorem l27_few:∀ k∈l27,k.2.2.length≤1000000:=by
 intro e he
 simp only [l27,List.mem_cons,List.not_mem_nil,or_false] at he
 rw [he];decide
theorem st27:stF l27=[kd1]:=by
 unfold stF l27
 rw [List.filter_cons_of_pos (by decide),List.filter_nil]
theorem bk27:bktsF l27 5=List.replicate 13 []++[kd1]::List.replicate 2 []:=by
 have h:=bk19
 unfold bktsF at h ⊢
 rw [if_pos (keys_iff.2 l19_ok),st19] at h
 rw [if_pos (keys_iff.2 l27_ok),st27]
 exact h
theorem tx27 {i:Nat} (h:i < 16):(txsF l27 5).getD i default=if i=13 then listB [kd1] else [0]:=by
 have h0:listB []=[0]:=rfl
 unfold txsF
 rw [bk27,List.map_append,List.map_replicate,List.map_cons,List.map_replicate,h0]
 by_cases h13:i=13
 ·subst h13;rw [if_pos rfl];rfl
 ·rw [if_neg h13,List.getD_eq_getElem?_getD]
  by_cases hl:i < 13
  ·rw [List.getElem?_append_left (by simpa using hl),List.getElem?_replicate,if_pos hl];rfl
  ·rw [List.getElem?_append_right (by simp;omega),List.length_replicate]
   obtain ⟨j,rfl⟩:∃ j,i=14+j:=⟨i - 14,by omega⟩
   rw [show 14+j - 13=j+1 by omega,List.getElem?_cons_succ,List.getElem?_replicate,if_pos (by omega)];rfl
theorem row27 {p:Nat} (h:1≤p∧p≤4):row (ofF (txsF l27 5)) p≠zeroD:=by
 have r:∀ i,i < 16→row (ofF (txsF l27 5)) (5+i)=leafD (if i=13 then listB [kd1] else [0]):=fun i hi=>by rw [of_row _ hi,tx27 hi]
 rw [right_row (of_right _) (by omega),below4 (by omega)]
 have e:∀ j,5≤j→j < 21→row (ofF (txsF l27 5)) j=leafD (if j=18 then listB [kd1] else [0]):=fun j h1 h2=>by
  have:=r (j - 5) (by omega)
  rw [show 5+(j - 5)=j by omega] at this
  rw [this]
  by_cases q:j=18
  ·rw [if_pos q,if_pos (by omega)]
  ·rw [if_neg q,if_neg (by omega)]
 rw [e _ (by omega) (by omega),e _ (by omega) (by omega),e _ (by omega) (by omega),e _ (by omega) (by omega)]
 by_cases q:p=4
 ·subst q
  rw [if_neg (by omega),if_pos (by omega),if_neg (by omega),if_neg (by omega)]
  exact kz4
 ·rw [if_neg (by omega),if_neg (by omega),if_neg (by omega),if_neg (by omega)]
  exact kz1
def b27:Ses:=beginS 3 1 2 5 2 16 3 0
theorem b27_r:rightS b27=true:=by decide
def s27:Ses:=rndS b27 1 [] 10
theorem s27_r:rightS s27=true:=rnd_right b27_r (by decide) (by decide) (by decide)
theorem begin27:beginF 3 1 2 5 2 16 3 0 10=(s27,0):=by
 unfold beginF
 rw [if_pos ⟨by decide,b27_r⟩];rfl
theorem begin27n:beginF 3 1 1 5 2 16 3 0 10=(zeroS,1):=by
 unfold beginF
 rw [if_neg (fun q=>absurd q.2 (by decide))]
theorem say27:sayF (ofF (txsF l27 5)) s27 l27=(saidF (ofF (txsF l27 5)) s27 l27,0):=by
 unfold sayF
 rw [if_pos ⟨s27_r,keys_iff.2 l27_ok⟩,if_neg (by decide)]
def m27:Msg:=⟨5,2,1,3,5,zeroD,[0],List.replicate 4 zeroD,[]⟩
theorem m27_in:MIn m27:=⟨rfl,zeroD_ok,by decide,by decide,fun d hd=>(by rw [List.eq_of_mem_replicate hd];exact ⟨rfl,zeroD_ok⟩),by decide,fun d hd=>(by cases hd),fun d hd=>(by cases hd)⟩
theorem m27_r:rightM m27=true:=by decide
def n27:Msg:=⟨4,2,1,3,5,zeroD,[],[],[]⟩
theorem n27_in:MIn n27:=⟨rfl,zeroD_ok,by decide,by decide,fun d hd=>(by cases hd),by decide,fun d hd=>(by cases hd),fun d hd=>(by cases hd)⟩
theorem n27_r:rightM n27=true:=by decide
theorem nx27:nxS (ofF (txsF l27 5)) m27=[1,2,3,4]:=by
 have h1:=row27 (p:=1) (by omega)
 have h2:=row27 (p:=2) (by omega)
 have h3:=row27 (p:=3) (by omega)
 have h4:=row27 (p:=4) (by omega)
 show unTo _ [1,2,3,4] (List.replicate 4 zeroD) 4=_
 unfold unTo unTo unTo unTo unTo
 rw [if_neg (show ¬ row (ofF (txsF l27 5)) (([1,2,3,4]:List Int).getD 0 default).toNat=(List.replicate 4 zeroD).getD 0 default from h1),if_neg (show ¬ row (ofF (txsF l27 5)) (([1,2,3,4]:List Int).getD 1 default).toNat=(List.replicate 4 zeroD).getD 1 default from h2),if_neg (show ¬ row (ofF (txsF l27 5)) (([1,2,3,4]:List Int).getD 2 default).toNat=(List.replicate 4 zeroD).getD 2 default from h3),if_neg (show ¬ row (ofF (txsF l27 5)) (([1,2,3,4]:List Int).getD 3 default).toNat=(List.replicate 4 zeroD).getD 3 default from h4)]
 rfl
def t27:Ses:=rndS s27 2 [1,2,3,4] 11
theorem t27_r:rightS t27=true:=rnd_right s27_r (by decide) (by decide) (by decide)
theorem hear27:hearAll (ofF (txsF l27 5)) s27 l27 m27 11=(t27,[],0):=by
 have hf:hearF (ofF (txsF l27 5)) s27 m27 11=(t27,true):=by
  unfold hearF
  rw [if_neg (by decide),if_pos (by decide),nx27,if_neg (by decide)];rfl
 unfold hearAll
 rw [if_pos ⟨s27_r,keys_iff.2 l27_ok,m27_r⟩,if_pos (by decide),if_pos (by decide),hf]
 rfl
def v27:Ses:=overS s27
theorem v27_r:rightS v27=true:=end_right s27_r
theorem hear27n:hearAll (ofF (txsF [] 5)) s27 [] n27 11=(v27,[],0):=by
 have hf:hearF (ofF (txsF [] 5)) s27 n27 11=(v27,true):=by
  unfold hearF
  rw [if_pos (by decide)];rfl
 unfold hearAll
 rw [if_pos ⟨s27_r,keys_iff.2 kok_nil,n27_r⟩,if_pos (by decide),if_pos (by decide),hf]
 rfl
theorem say27n:sayF (ofF (txsF [] 5)) v27 []=(zM,7):=by
 unfold sayF
 rw [if_pos ⟨v27_r,keys_iff.2 kok_nil⟩,if_pos (by decide)]
def u27:Ses:={ s27 with wt:=1,due:=16 }
theorem tick27:tickS s27 12=(u27,true):=by
 unfold tickS
 rw [if_pos ⟨s27_r,by decide,by decide,by decide⟩,if_neg (by decide)];rfl
theorem tick27n:tickS s27 11=(s27,false):=by
 unfold tickS
 rw [if_neg (fun q=>absurd q.2.2.2 (by decide))]
abbrev r27:List (List PVal):=[[.v (.string { data:=#[97,98,99] }),.k .u64 1,.k .u64 0,.k .u64 0,.k .u64 0,.k .u64 0,.k .u64 0,.k .u64 0,.k .u64 0,.v (.slice none 0 0)]]
theorem ent27:Ent1 (.p (.sl 10 r27 true)) (.p (.sl 10 (l27.map kR) false)):=
 Ent1.rows (.cons (.cons .refl (.cons .refl (.cons .refl (.cons .refl (.cons .refl (.cons .refl (.cons .refl (.cons .refl (.cons .refl (.cons .nil .nil)))))))))) .nil)
end Go.Proofs.YtkgploeegbmofaaGreat.Wi
namespace Go.Proofs.YtkgploeegbmofaaGreat.Wi
open Go Go.RowKit Go.Aw Go.Aw.Sha Go.Aw.Cart Go.Aw.Tree Go.Aw.Clash Go.Proofs.YtkgploeegbmofaaGreat.Ca Go.Proofs.YtkgploeegbmofaaGreat.Rg
set_option linter.unusedVariables false
set_option linter.unusedSimpArgs false
set_option maxRecDepth 8000
set_option maxHeartbeats 4000000
attribute [local irreducible] sum
namespace S9
theorem lopC {C:Ctx} {o:Oper} {σ:St} {e:Eff} {ro:Nat→Bool} (h:LOp C o σ e ro:=by
  first|(apply lop_call6;(focus rfl);(focus exact inferInstance);(focus rfl);(focus rfl);(focus rfl);(focus rfl);(focus rfl);(focus rfl);(focus exact inferInstance);(focus exact inferInstance);(focus first|exact True.intro|assumption|rfl|omega|((repeat' (first|assumption|refine And.intro ?_ ?_|omega|rfl));done)|fail);(focus rfl))|exact S6.lopC|exact B1.lopC|fail):LOp C o σ e ro:=h
section steps
variable {C:Ctx} {ops:Array Oper} {o:Oper} {rest:List Oper} {K:St→Prop} {σ:St} {e:Eff} {ro:Nat→Bool} {W:List (Nat × Nat)} {i:Nat}
theorem rnC {d:Nat} (hg:Guard ops σ o true:=by first|exact gd_n rfl rfl|exact gd_t rfl rfl rfl rfl|exact gd_t rfl rfl rfl (by assumption)) (hd:o.dst=some d:=by rfl) (h:LOp C o σ e ro:=by exact lopC) (hk:RunN C ops rest K (e.app (some d) σ)):RunN C ops (o::rest) K σ:=rn_any hg hd h hk
end steps
end S9
open S9
theorem alive27_w:PCall Tryz.prog 21 [] (.p (.b true)):=by
 refine pcall_of Tryz.func21 rfl (fun w0 F S0 M0=>?_)
 obtain ⟨S,hS⟩:∃ S,S=s27:=⟨_,rfl⟩
 obtain ⟨X,hX⟩:∃ X,X=t27:=⟨_,rfl⟩
 obtain ⟨V,hV⟩:∃ V,V=v27:=⟨_,rfl⟩
 obtain ⟨U,hU⟩:∃ U,U=u27:=⟨_,rfl⟩
 obtain ⟨M,hM⟩:∃ M,M=saidF (ofF (txsF l27 5)) s27 l27:=⟨_,rfl⟩
 obtain ⟨G,hG⟩:∃ G,G=List.replicate 4 zeroD:=⟨_,rfl⟩
 obtain ⟨L,hL⟩:∃ L:List Kd,L=[]:=⟨_,rfl⟩
 have eL:Ent1 (.p (.v (.slice none 0 0))) (.p (.sl 10 (([]:List Kd).map kR) false)):=Ent1.nil
 have k1:PCall Tryz.prog 29 [.p (.i 3),.p (.i 1),.p (.i 2),.p (.i 5),.a [.p (.i 2),.p (.i 16),.p (.i 3),.p (.i 0)],.p (.i 10)] (.tup [.agg (sL S),.one (.p (.i 0))]):=by
  have h:=begin_w 3 1 2 5 2 16 3 0 10
  rw [begin27] at h
  rw [hS];exact h
 have k2:PCall Tryz.prog 27 [sV S,.p (.sl 10 r27 true)] (.tup [.agg (mL M),.one (.p (.i 0))]):=by
  have h:=say_w s27 l27 false (by decide) l27_in l27_few (fun _=>by decide)
  rw [show s27.part=5 from rfl,say27] at h
  rw [hS,hM]
  exact h.ent (.cons .refl (.cons ent27 .nil))
 have e3:Ent1 (.a (.p (.i 5)::.p (.i 2)::.p (.i 1)::.p (.i 3)::.p (.i 5)::(zeroD.map bcD++[.p (.sl 1 [[.i 0]] true),.p (.sl 32 (G.map dRw) true),.p (.v (.slice none 0 0))]))) (mV m27):=by
  rw [hG]
  exact ent_m PE.ex PE.ex PE.nil
 have k3:PCall Tryz.prog 25 [sV S,.p (.sl 10 r27 true),.a (.p (.i 5)::.p (.i 2)::.p (.i 1)::.p (.i 3)::.p (.i 5)::(zeroD.map bcD++[.p (.sl 1 [[.i 0]] true),.p (.sl 32 (G.map dRw) true),.p (.v (.slice none 0 0))])),.p (.i 11)] (.tup [.agg (sL X),.one (.p (.sl 10 (L.map kR) false)),.one (.p (.i 0))]):=by
  have h:=hearAll_w s27 l27 false m27 11 (by decide) l27_in m27_in (by decide) (fun _ _=>by decide)
  rw [show s27.part=5 from rfl,hear27] at h
  rw [hS,hX,hL]
  exact h.ent (.cons .refl (.cons ent27 (.cons e3 (.cons .refl .nil))))
 have k4:PCall Tryz.prog 22 [sV S,.p (.i 12)] (.tup [.agg (sL U),.one (.p (.b true))]):=by
  have h:=tick_w s27 12 (by decide)
  rw [tick27] at h
  rw [hS,hU];exact h
 have k5:PCall Tryz.prog 22 [sV S,.p (.i 11)] (.tup [.agg (sL S),.one (.p (.b false))]):=by
  have h:=tick_w s27 11 (by decide)
  rw [tick27n] at h
  rw [hS];exact h
 have e6:Ent1 (.a (.p (.i 4)::.p (.i 2)::.p (.i 1)::.p (.i 3)::.p (.i 5)::(zeroD.map bcD++[.p (.v (.slice none 0 0)),.p (.v (.slice none 0 0)),.p (.v (.slice none 0 0))]))) (mV n27):=ent_m PE.nil PE.nil PE.nil
 have k6:PCall Tryz.prog 25 [sV S,.p (.v (.slice none 0 0)),.a (.p (.i 4)::.p (.i 2)::.p (.i 1)::.p (.i 3)::.p (.i 5)::(zeroD.map bcD++[.p (.v (.slice none 0 0)),.p (.v (.slice none 0 0)),.p (.v (.slice none 0 0))])),.p (.i 11)] (.tup [.agg (sL V),.one (.p (.sl 10 (L.map kR) false)),.one (.p (.i 0))]):=by
  have h:=hearAll_w s27 [] false n27 11 (by decide) nil_in n27_in (by decide) (fun _ _=>by decide)
  rw [show s27.part=5 from rfl,hear27n] at h
  rw [hS,hV,hL]
  exact h.ent (.cons .refl (.cons eL (.cons e6 (.cons .refl .nil))))
 have k7:PCall Tryz.prog 27 [sV V,.p (.v (.slice none 0 0))] (.tup [.agg (mL zM),.one (.p (.i 7))]):=by
  have h:=say_w v27 [] false (by decide) nil_in (fun k hk=>by cases hk) (fun _=>by decide)
  rw [show v27.part=5 from rfl,say27n] at h
  rw [hV]
  exact h.ent (.cons .refl (.cons eL .nil))
 have k8:PCall Tryz.prog 29 [.p (.i 3),.p (.i 1),.p (.i 1),.p (.i 5),.a [.p (.i 2),.p (.i 16),.p (.i 3),.p (.i 0)],.p (.i 10)] (.tup [.agg (sL zeroS),.one (.p (.i 1))]):=by
  have h:=begin_w 3 1 1 5 2 16 3 0 10
  rw [begin27n] at h
  exact h
 have k9:PCall Tryz.prog 26 [sV S,sV S] (.p (.b true)):=by
  have h:=ssame_w s27 s27 (by decide)
  rw [show sameS s27 s27=true by decide] at h
  rw [hS];exact h
 have k10:PCall Tryz.prog 20 [sV X] (.p (.b true)):=by
  have h:=sright_w t27 (by decide)
  rw [t27_r] at h
  rw [hX];exact h
 haveI i1:PC _ _ _ True _:=⟨fun _=>k1⟩
 haveI i2:PC _ _ _ True _:=⟨fun _=>k2⟩
 haveI i3:PC _ _ _ True _:=⟨fun _=>k3⟩
 haveI i4:PC _ _ _ True _:=⟨fun _=>k4⟩
 haveI i5:PC _ _ _ True _:=⟨fun _=>k5⟩
 haveI i6:PC _ _ _ True _:=⟨fun _=>k6⟩
 haveI i7:PC _ _ _ True _:=⟨fun _=>k7⟩
 haveI i8:PC _ _ _ True _:=⟨fun _=>k8⟩
 haveI i9:PC _ _ _ True _:=⟨fun _=>k9⟩
 haveI i10:PC _ _ _ True _:=⟨fun _=>k10⟩
 clear k1 k2 k3 k4 k5 k6 k7 k8 k9 k10 e3 e6
 have z32:(zeroD.map bcD).length=32:=rfl
 have hM32:(M.dig.map bcD).length=32:=by
  rw [List.length_map,hM]
  show (row (ofF (txsF l27 5)) 0).length=32
  exact row_len (ofF_672' _) (by omega)
 have a1:decide (S.due=12)=true:=by rw [hS];decide
 have a2:decide (S.round=1)=true:=by rw [hS];decide
 have a3:decide (M.kind=1)=true:=by rw [hM];exact decide_eq_true (show (1:Int)=1 from rfl)
 have a4:decide (X.round=2)=true:=by rw [hX];decide
 have a5:decide ((X.pls.length:Int)=4)=true:=by rw [hX];decide
 have a6:decide (U.due=16)=true:=by rw [hU];decide
 have a7:decide (V.round=0)=true:=by rw [hV];decide
 have a8:decide ((L.length:Int)=0)=true:=by rw [hL];decide
 have n0:(!false)=true:=rfl
 clear hS hX hV hU hM hL
 repeat' (first|refine jx20 ?_|refine jy0 ?_ ?_|exact spF|refine spQ fun hq hq'=>?_|refine spN fun hn=>?_|fail)
 refine rn_any (gd_n rfl rfl) rfl (lop_call6 (by rfl) inferInstance (by rfl) (by rfl) (by rfl) (by rfl) (by rfl) (by rfl) (by infer_instance) i1 True.intro (by rfl)) ?_
 repeat' (first|refine jx20 ?_|refine jy0 ?_ ?_|exact spF|refine spQ fun hq hq'=>?_|refine spN fun hn=>?_|fail)
 refine rn_any (gd_n rfl rfl) rfl (lop_call2 (by rfl) inferInstance (by rfl) (by rfl) (by infer_instance) i2 True.intro (by rfl)) ?_
 repeat' (first|refine jx20 ?_|refine jy0 ?_ ?_|exact spF|refine spQ fun hq hq'=>?_|refine spN fun hn=>?_|fail)
 refine rn_any (gd_n rfl rfl) rfl (show LOp _ _ _ ⟨.p (.sl 32 (G.map dRw) true),[]⟩ _ from by rw [hG];exact lop_makeP (c:=4) (z:=List.replicate 32 (.int .u8 0)) rfl inferInstance inferInstance inferInstance rfl rfl rfl (by decide) (by decide) (by decide) (by decide) rfl) ?_
 repeat' (first|refine jx20 ?_|refine jy0 ?_ ?_|exact spF|refine spQ fun hq hq'=>?_|refine spN fun hn=>?_|fail)
 refine rn_any (gd_n rfl rfl) rfl (show LOp _ _ _ ⟨.a (.p (.i 5)::.p (.i 2)::.p (.i 1)::.p (.i 3)::.p (.i 5)::(zeroD.map bcD++[.p (.sl 1 [[.i 0]] true),.p (.sl 32 (G.map dRw) true),.p (.v (.slice none 0 0))])),[]⟩ _ from by exact lop_build7 rfl inferInstance inferInstance rfl rfl rfl rfl rfl rfl rfl (by decide) rfl rfl) ?_
 repeat' (first|refine jx20 ?_|refine jy0 ?_ ?_|exact spF|refine spQ fun hq hq'=>?_|refine spN fun hn=>?_|fail)
 refine rn_any (gd_n rfl rfl) rfl (lop_call4 (by rfl) inferInstance (by rfl) (by rfl) (by rfl) (by rfl) (by infer_instance) i3 True.intro (by rfl)) ?_
 repeat' (first|refine jx20 ?_|refine jy0 ?_ ?_|exact spF|refine spQ fun hq hq'=>?_|refine spN fun hn=>?_|fail)
 refine rn_any (gd_n rfl rfl) rfl (lop_call6 (by rfl) inferInstance (by rfl) (by rfl) (by rfl) (by rfl) (by rfl) (by rfl) (by infer_instance) i8 True.intro (by rfl)) ?_
 as_aux_lemma=>
  repeat' (first|refine jx20 ?_|refine jy0 ?_ ?_|exact spF|refine spQ fun hq hq'=>?_|refine spN fun hn=>?_|fail)
  exact rt1 rfl rfl finS_p rfl
end Go.Proofs.YtkgploeegbmofaaGreat.Wi
