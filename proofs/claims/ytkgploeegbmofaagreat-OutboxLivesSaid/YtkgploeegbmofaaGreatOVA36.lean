/- outbox, the laws: ops; Great -/
import Derived.Test.YtkgploeegbmofaaGreatOVA31
namespace Go.Proofs.YtkgploeegbmofaaGreat.Wi
open Go Go.RowKit Go.Aw Go.Aw.Cart Go.Aw.Tree Go.Proofs.YtkgploeegbmofaaGreat.Ca Go.Proofs.YtkgploeegbmofaaGreat.Rg
set_option linter.unusedVariables false
set_option linter.unusedSimpArgs false
set_option maxRecDepth 8000
set_option maxHeartbeats 4000000
structure Obp where
 kind:Int
 mark:Int
 msg:Msg
 ans:Ans
instance:Inhabited Obp:=⟨⟨0,0,zeroM,(0,0,[])⟩⟩
def obR (o:Obp):List PVal:=.i o.kind::.i o.mark::(mR o.msg++aR o.ans)
structure OGo (o:Obp):Prop where
 msg:MGo o.msg
 ll:o.ans.2.2.length≤9223372036854775807
theorem obR_len {o:Obp} (h:o.msg.dig.length=32):(obR o).length=45:=by
 show (_::_::(mR o.msg++aR o.ans)).length=45
 rw [List.length_cons,List.length_cons,List.length_append,mR_len h];rfl
theorem obR_m {o:Obp} (h:o.msg.dig.length=32):(((obR o).drop 2).take 40).map AC.p=mL o.msg:=by
 show ((mR o.msg++aR o.ans).take 40).map AC.p=_
 rw [List.take_left' (mR_len h),mL_eq]
theorem obR_ml {o:Obp} (h:o.msg.dig.length=32):40≤((obR o).drop 2).length:=by
 rw [List.length_drop,obR_len h];decide
theorem obR_l {o:Obp} (h:o.msg.dig.length=32):(((obR o).drop 42).drop 2)[0]?=some (.sl 1 (o.ans.2.2.map iRw) false):=by
 rw [List.drop_drop,show (obR o).drop (42+2)=(mR o.msg++aR o.ans).drop 42 from rfl,List.drop_append,List.drop_of_length_le (by rw [mR_len h];decide),mR_len h];rfl
theorem obR_t {o:Obp} (k:o.msg.dig.length=32):((obR o).take 45).map AC.p=(obR o).map AC.p:=by rw [List.take_of_length_le (Nat.le_of_eq (obR_len k))]
def gO (n:Nat) (o:Obp):Bool:=decide (60 < (n:Int))||(greatM o.msg||(decide (100 < (o.ans.2.2.length:Int))||(decide (o.kind=5)&&decide (600 < o.mark))))
theorem any_stepO {α:Type} [Inhabited α] {p:α→Bool} {l:List α} {i:Nat} (h:i < l.length):(l.take (i+1)).any p=((l.take i).any p||p (l.getD i default)):=by
 rw [List.take_succ_eq_append_getElem h,List.any_append,List.getD_eq_getElem?_getD,List.getElem?_eq_getElem h];simp
namespace O6
theorem lopC {C:Ctx} {o:Oper} {σ:St} {e:Eff} {ro:Nat→Bool} (h:LOp C o σ e ro:=by
  first
   | (apply gLoad;(focus rfl);first|(apply lop_lda;(focus rfl);(focus exact inferInstance);(focus rfl);(focus rfl);(focus decide);(focus exact obR_ml (by assumption));(focus exact obR_m (by assumption));(focus rfl))|(apply lop_lda;(focus rfl);(focus exact inferInstance);(focus rfl);(focus rfl);(focus decide);(focus exact Nat.le_of_eq (obR_len (by assumption)).symm);(focus exact obR_t (by assumption));(focus rfl))|(apply lop_ld_at1;(focus rfl);(focus exact inferInstance);(focus rfl);(focus rfl);(focus rfl);(focus exact obR_l (by assumption));(focus rfl)))
   | exact O1.lopC
   | fail):LOp C o σ e ro:=h
section steps
variable {C:Ctx} {ops:Array Oper} {o:Oper} {rest:List Oper} {K:St→Prop} {σ:St} {e:Eff} {ro:Nat→Bool} {W:List (Nat × Nat)} {i:Nat}
theorem rnC {d:Nat} (hg:Guard ops σ o true:=by first|exact gd_n rfl rfl|exact gd_t rfl rfl rfl rfl|exact gd_t rfl rfl rfl (by assumption)) (hd:o.dst=some d:=by rfl) (h:LOp C o σ e ro:=by exact lopC) (hk:RunN C ops rest K (e.app (some d) σ)):RunN C ops (o::rest) K σ:=rn_any hg hd h hk
end steps
end O6
open O6
theorem great29_w (l:List Obp) (ex:Bool) (hl:l.length≤9223372036854775807) (h:∀ o∈l,OGo o):PCall Tryz.prog 7 [.p (.sl 45 (l.map obR) ex)] (.p (.b (l.any (gO l.length)))):=by
 refine pcall_of Tryz.func7 rfl (fun w0 F S0 M0=>?_)
 obtain ⟨A,hA⟩:∃ A,A=l.any (gO l.length):=⟨_,rfl⟩
 rw [← hA]
 repeat' (first|refine jx5 ?_|refine jy0 ?_ ?_|exact spF|refine spQ fun hq hq'=>?_|refine spN fun hn=>?_|fail)
 refine aws_loopS [2,3,4,5,6,7,8,9,10,11,12,13,14,15,16,17,18,19,20,21,22,23,24,25,26,27,28,29,30,31,32,33,34,35,36,37,38,39,40,41,42,43,44,45,46] [] (fun (i:Nat)=>[(3,.p (.i i))]) (fun _=>[]) (fun i=>i≤l.length∧(l.take i).any (gO l.length)=false) (fun i=>l.length - i) 0 ⟨Nat.zero_le _,rfl⟩ (by exact knA) (by exact knA) ?_
 rintro i β γ ⟨hi,hn⟩
 dsimp only at hi hn ⊢
 by_cases hil:i < l.length
 ·have d1:decide ((i:Int) < (l.length:Int))=true:=decide_eq_true (by omega)
  have ei:(i:Int).toNat=i:=Int.toNat_natCast i
  have hm:l.getD (i:Int).toNat default∈l:=by rw [ei,getD_at hil];exact List.getElem_mem _
  have hst:(l.take (i+1)).any (gO l.length)=(decide (60 < (l.length:Int))||(greatM (l.getD (i:Int).toNat default).msg||(decide (100 < ((l.getD (i:Int).toNat default).ans.2.2.length:Int))||(decide ((l.getD (i:Int).toNat default).kind=5)&&decide (600 < (l.getD (i:Int).toNat default).mark))))):=by
   rw [any_stepO (p:=gO l.length) hil,hn,Bool.false_or,show l.getD i default=l.getD (i:Int).toNat default by rw [ei]];rfl
  have hx:=h _ hm
  have hd:=hx.msg.d32
  have cg:=great26_w _ hx.msg
  have hAt:(decide (60 < (l.length:Int))||(greatM (l.getD (i:Int).toNat default).msg||(decide (100 < ((l.getD (i:Int).toNat default).ans.2.2.length:Int))||(decide ((l.getD (i:Int).toNat default).kind=5)&&decide (600 < (l.getD (i:Int).toNat default).mark)))))=true→A=true:=fun q=>by rw [hA];exact List.any_eq_true.2 ⟨_,hm,q⟩
  clear hA hn hm hx
  generalize greatM (l.getD (i:Int).toNat default).msg=G at cg hst hAt
  haveI:PC Tryz.prog 24 [mV (l.getD (i:Int).toNat default).msg] True (.p (.b G)):=⟨fun _=>cg⟩
  clear cg
  have t0:(!true)=false:=rfl
  cases d2:decide (60 < (l.length:Int)) with
  | true=>
   rw [d2,Bool.true_or] at hAt
   obtain rfl:=hAt rfl
   clear hst
   as_aux_lemma=>
    repeat' (first|refine jx5 ?_|refine jy0 ?_ ?_|exact spF|refine spQ fun hq hq'=>?_|refine spN fun hn=>?_|fail)
    exact rt1 rfl rfl finS_p rfl
  | false=>
  rw [d2,Bool.false_or] at hst hAt
  cases G with
  | true=>
   rw [Bool.true_or] at hAt
   obtain rfl:=hAt rfl
   clear hst
   as_aux_lemma=>
    repeat' (first|refine jx5 ?_|refine jy0 ?_ ?_|exact spF|refine spQ fun hq hq'=>?_|refine spN fun hn=>?_|fail)
    exact rt1 rfl rfl finS_p rfl
  | false=>
  rw [Bool.false_or] at hst hAt
  cases d3:decide (100 < ((l.getD (i:Int).toNat default).ans.2.2.length:Int)) with
  | true=>
   rw [d3,Bool.true_or] at hAt
   obtain rfl:=hAt rfl
   clear hst
   as_aux_lemma=>
    repeat' (first|refine jx5 ?_|refine jy0 ?_ ?_|exact spF|refine spQ fun hq hq'=>?_|refine spN fun hn=>?_|fail)
    exact rt1 rfl rfl finS_p rfl
  | false=>
  rw [d3,Bool.false_or] at hst hAt
  cases d4:decide ((l.getD (i:Int).toNat default).kind=5) with
  | false=>
   rw [d4,Bool.false_and] at hst
   clear hAt
   as_aux_lemma=>
    repeat' (first|refine jx5 ?_|refine jy0 ?_ ?_|exact spF|refine spQ fun hq hq'=>?_|refine spN fun hn=>?_|fail)
    exact ⟨i+1,_,by omega,⟨by omega,hst⟩,.refl,by exact frA⟩
  | true=>
  rw [d4,Bool.true_and] at hst hAt
  cases d5:decide (600 < (l.getD (i:Int).toNat default).mark) with
  | true=>
   obtain rfl:=hAt d5
   clear hst
   as_aux_lemma=>
    repeat' (first|refine jx5 ?_|refine jy0 ?_ ?_|exact spF|refine spQ fun hq hq'=>?_|refine spN fun hn=>?_|fail)
    exact rt1 rfl rfl finS_p rfl
  | false=>
   rw [d5] at hst
   clear hAt
   as_aux_lemma=>
    repeat' (first|refine jx5 ?_|refine jy0 ?_ ?_|exact spF|refine spQ fun hq hq'=>?_|refine spN fun hn=>?_|fail)
    exact ⟨i+1,_,by omega,⟨by omega,hst⟩,.refl,by exact frA⟩
 ·have d1:decide ((i:Int) < (l.length:Int))=false:=decide_eq_false (by omega)
  obtain rfl:i=l.length:=by omega
  rw [List.take_length] at hn
  rw [hn] at hA
  subst hA
  as_aux_lemma=>
   repeat' (first|refine jx5 ?_|refine jy0 ?_ ?_|exact spF|refine spQ fun hq hq'=>?_|refine spN fun hn=>?_|fail)
   exact rt1 rfl rfl finS_p rfl
end Go.Proofs.YtkgploeegbmofaaGreat.Wi
