/- messages, the reference: lists that are the same; carts of a part's places -/
import Derived.Test.YtkgploeegbmofaaGreatOVA37
import Derived.Test.YtkgploeegbmofaaGreatOVA19
import Derived.Test.YtkgploeegbmofaaGreatOVA39
namespace Go.Proofs.YtkgploeegbmofaaGreat.Wi
open Go Go.RowKit Go.Aw Go.Aw.Cart Go.Aw.Tree Go.Proofs.YtkgploeegbmofaaGreat.Ca Go.Proofs.YtkgploeegbmofaaGreat.Rg
set_option linter.unusedVariables false
set_option linter.unusedSimpArgs false
set_option maxRecDepth 8000
set_option maxHeartbeats 4000000
theorem refSame10g_w (a b:List Kd) (ex ey:Bool) (h:a.length≤1000000000) (ha:∀ k∈a,KdI k) (hb:∀ k∈b,KdI k) (hf:∀ k∈a,k.2.2.length≤1000000000):PCall Tryz.prog 86 [.p (.sl 10 (a.map kR) ex),.p (.sl 10 (b.map kR) ey)] (.p (.b (decide (a=b)))):=by
 refine pcall_of Tryz.func86 rfl (fun w0 F S0 M0=>?_)
 by_cases hl:a.length=b.length
 ·have d0:decide ((a.length:Int)≠(b.length:Int))=false:=decide_eq_false (by omega)
  open PW9 in
  repeat' (first|refine jx5 ?_|fail)
  refine aws_loopS (0::1::[4,5,11,12,13,14,15,16,17,18,19,20,21,22,23,24,25,26,27,28,29,30,31,32,33,34,35,36,37,38,39,40,41]) [] (fun (x:Nat)=>[(5,.p (.i x)),(0,.p (.sl 10 (a.map kR) ex)),(1,.p (.sl 10 (b.map kR) ey))]) (fun x=>[]) (fun x=>x≤a.length∧∀ j,j < x→a.getD j default=b.getD j default) (fun x=>a.length - x) 0 ⟨Nat.zero_le _,fun j hj=>absurd hj (Nat.not_lt_zero _)⟩ (by exact knA) (by exact knA) ?_
  rintro i β γ ⟨hi,hx⟩
  dsimp only at hi hx ⊢
  by_cases hil:i < a.length
  ·have d1:decide ((i:Int) < (a.length:Int))=true:=decide_eq_true (by omega)
   have hib:(i:Int) < (b.length:Int):=by omega
   have ei:(i:Int).toNat=i:=Int.toNat_natCast i
   have h1:a.getD (i:Int).toNat default∈a:=by rw [ei,getD_at hil];exact List.getElem_mem _
   have h2:b.getD (i:Int).toNat default∈b:=by rw [ei,getD_at (by omega)];exact List.getElem_mem _
   have k1:=(ha _ h1).key
   have k2:=(hb _ h2).key
   have c1:=Cr.same_r (a.getD (i:Int).toNat default).2.1 (b.getD (i:Int).toNat default).2.1 (a.getD (i:Int).toNat default).2.2 (b.getD (i:Int).toNat default).2.2 false false (ha _ h1).vec.1 (hb _ h2).vec.1 (hf _ h1)
   have e:decide (a.getD (i:Int).toNat default=b.getD (i:Int).toNat default)=(decide ((a.getD (i:Int).toNat default).1=(b.getD (i:Int).toNat default).1)&&sameF (a.getD (i:Int).toNat default).2.1 (b.getD (i:Int).toNat default).2.1 (a.getD (i:Int).toNat default).2.2 (b.getD (i:Int).toNat default).2.2):=by
    obtain ⟨p,v,l⟩:=a.getD (i:Int).toNat default
    obtain ⟨q,w,m⟩:=b.getD (i:Int).toNat default
    rw [Bool.eq_iff_iff]
    simp [sameF]
   generalize sameF (a.getD (i:Int).toNat default).2.1 (b.getD (i:Int).toNat default).2.1 (a.getD (i:Int).toNat default).2.2 (b.getD (i:Int).toNat default).2.2=s at c1 e
   haveI:PC Tryz.prog 128 [cV (a.getD (i:Int).toNat default).2.1 (a.getD (i:Int).toNat default).2.2 false,cV (b.getD (i:Int).toNat default).2.1 (b.getD (i:Int).toNat default).2.2 false] True (.p (.b s)):=⟨fun _=>c1⟩
   by_cases hq:a.getD (i:Int).toNat default=b.getD (i:Int).toNat default
   ·rw [decide_eq_true hq] at e
    have hk:decide ((a.getD (i:Int).toNat default).1=(b.getD (i:Int).toNat default).1)=true:=by rw [hq];exact decide_eq_true rfl
    rw [hk,Bool.true_and] at e
    have d2:(!decide ((a.getD (i:Int).toNat default).1=(b.getD (i:Int).toNat default).1))=false:=by rw [hk];rfl
    have d3:(!s)=false:=by rw [← e];rfl
    rw [ei] at hq
    clear c1 h1 h2 ha hb hf
    open PW9 in
    repeat' (first|refine jx6 ?_|fail)
    refine ⟨i+1,_,by omega,⟨by omega,fun j hj=>?_⟩,.refl,by exact frA⟩
    by_cases ej:j=i
    ·rw [ej];exact hq
    ·exact hx j (by omega)
   ·rw [decide_eq_false hq] at e
    rw [decide_eq_false (show ¬ a=b from fun q=>hq (by rw [q]))]
    clear c1 h1 h2 ha hb hf
    by_cases hk:(a.getD (i:Int).toNat default).1=(b.getD (i:Int).toNat default).1
    ·have d2:(!decide ((a.getD (i:Int).toNat default).1=(b.getD (i:Int).toNat default).1))=false:=by rw [decide_eq_true hk];rfl
     rw [decide_eq_true hk,Bool.true_and] at e
     have d3:(!s)=true:=by rw [← e];rfl
     open PW9 in
     as_aux_lemma=>
      repeat' (first|refine jx6 ?_|fail)
      exact rt1 rfl rfl finS_p rfl
    ·have d2:(!decide ((a.getD (i:Int).toNat default).1=(b.getD (i:Int).toNat default).1))=true:=by rw [decide_eq_false hk];rfl
     open PW9 in
     as_aux_lemma=>
      repeat' (first|refine jx6 ?_|fail)
      exact rt1 rfl rfl finS_p rfl
  ·have d1:decide ((i:Int) < (a.length:Int))=false:=decide_eq_false (by omega)
   rw [decide_eq_true (list_eq_of hl fun j hj=>hx j (by omega))]
   open PW9 in
   as_aux_lemma=>
    repeat' (first|refine jx5 ?_|fail)
    exact rt1 rfl rfl finS_p rfl
 ·have d0:decide ((a.length:Int)≠(b.length:Int))=true:=decide_eq_true (by omega)
  rw [decide_eq_false (show ¬ a=b from fun q=>hl (by rw [q]))]
  open PW9 in
  as_aux_lemma=>
   repeat' (first|refine jx5 ?_|fail)
   exact rt1 rfl rfl finS_p rfl
theorem atLeaf_is (k:Kd) (p:Int):atLeaf k p=decide (p=5+(leafF k.1:Int)):=by
 unfold atLeaf
 have h:leafF k.1 < 16:=Nat.mod_lt _ (by decide)
 refine decide_eq_decide.2 ?_
 unfold leafOf
 constructor
 ·intro q
  split at q<;>omega
 ·intro q
  rw [if_pos (by omega)]
  omega
end Go.Proofs.YtkgploeegbmofaaGreat.Wi
namespace Go.Proofs.YtkgploeegbmofaaGreat.Wi
open Go Go.RowKit Go.Aw Go.Aw.Cart Go.Aw.Tree Go.Proofs.YtkgploeegbmofaaGreat.Ca Go.Proofs.YtkgploeegbmofaaGreat.Rg
set_option linter.unusedVariables false
set_option linter.unusedSimpArgs false
set_option maxRecDepth 8000
set_option maxHeartbeats 4000000
open T4
theorem any_step {p:Int→Bool} {l:List Int} {i:Nat} (h:i < l.length):(l.take (i+1)).any p=((l.take i).any p||p (l.getD i default)):=by
 rw [List.take_succ_eq_append_getElem h,List.any_append,getD_at h]
 simp
theorem refWithin_w (m:Msg) (h:MIn m):PCall Tryz.prog 158 [mV m] (.p (.b (withinM m))):=by
 refine pcall_of Tryz.func158 rfl (fun w0 F S0 M0=>?_)
 have hm:=h.d32
 have h32:(m.dig.map bcD).length=32:=by rw [List.length_map];exact hm
 have kl:=h.kl
 have pl:=h.pl
 have c1:=refRight10_w m.kds false (by omega) h.kd (fun k hk=>by have:=h.few k hk;omega)
 unfold withinM
 have hko:=fun q=>(keys_iff.1 q:KOk m.kds).key
 generalize keysF m.kds=B at c1 hko ⊢
 haveI i1:PC Tryz.prog 159 [.p (.sl 10 (m.kds.map kR) false)] True (.p (.b B)):=⟨fun _=>c1⟩
 cases B with
 | false=>
  have d0:(!false)=true:=rfl
  rw [Bool.false_and]
  as_aux_lemma=>
   repeat' (first|refine jx5 ?_|fail)
   exact rt1 rfl rfl finS_p rfl
 | true=>
 have d0:(!true)=false:=rfl
 rw [Bool.true_and]
 have hkl:=hko rfl
 have hkd:=h.kd
 clear hko c1 h
 repeat' (first|refine jx5 ?_|fail)
 refine aws_loopS (1::2::[2,3,4,5,6,11,12,13,14,15,16,17,18,19,20,21,22,23,24,25,26,27,28,29,30,31,32,33,34,35,36,37,38,39,40,41,42,43,44,45,46,47,48,49,50,51,52,53,54,55,56]) [1] (fun (i:Nat)=>[(3,.p (.i i)),(1,.o (.ptr 1 0 0))]) (fun _=>[(1,(1,some (.box 92 (mL m))))]) (fun i=>i≤m.kds.length∧∀ j,j < i→wrongK m (m.kds.getD j default)=false) (fun i=>m.kds.length - i) 0 ⟨Nat.zero_le _,fun j hj=>absurd hj (Nat.not_lt_zero _)⟩ (by exact knA) (by exact knA) ?_
 rintro i β γ ⟨hi,hx⟩
 try dsimp only at hi hx ⊢
 by_cases hil:i < m.kds.length
 ·have d1:decide ((i:Int) < (m.kds.length:Int))=true:=decide_eq_true (by omega)
  have ei:(i:Int).toNat=i:=Int.toNat_natCast i
  obtain ⟨k,hk⟩:∃ k,k=m.kds.getD (i:Int).toNat default:=⟨_,rfl⟩
  have hmem:k∈m.kds:=by rw [hk,ei,getD_at hil];exact List.getElem_mem _
  have ok:=(hkd k hmem).key
  have l20:=hkl k hmem
  have next:wrongK m k=false→∀ j,j < i+1→wrongK m (m.kds.getD j default)=false:=fun q j hj=>by
   by_cases e:j=i
   ·rw [e,← ei,← hk];exact q
   ·exact hx j (by omega)
  have bad:wrongK m k=true→(!(m.kds.any (wrongK m)))=false:=fun q=>by
   rw [List.any_eq_true.2 ⟨k,hmem,q⟩];rfl
  have lf16:leafF k.1 < 16:=Nat.mod_lt _ (by decide)
  have cL:=refKeyLeaf_w k.1 ok (by omega)
  have cR:=refKeyRight_w k.1 ok (by omega)
  have cP:=refKeyPart_w k.1 ok (by omega)
  have hwr:wrongK m k=(!keyR k.1||(decide ((partF k.1:Int)≠m.part)||!(m.pls.any (atLeaf k)))):=rfl
  have hat:=atLeaf_is k
  generalize atLeaf k=AL at hwr hat
  generalize wrongK m k=W at next bad hwr
  generalize keyR k.1=R at cR hwr
  generalize leafF k.1=L at cL hat lf16
  generalize partF k.1=P at cP hwr
  rw [hk] at cL cR cP
  haveI i2:PC Tryz.prog 180 [.p (.v (.string (strOf (m.kds.getD (i:Int).toNat default).1)))] True (.p (.i (L:Int))):=⟨fun _=>cL⟩
  haveI i3:PC Tryz.prog 160 [.p (.v (.string (strOf (m.kds.getD (i:Int).toNat default).1)))] True (.p (.b R)):=⟨fun _=>cR⟩
  haveI i4:PC Tryz.prog 181 [.p (.v (.string (strOf (m.kds.getD (i:Int).toNat default).1)))] True (.p (.i (P:Int))):=⟨fun _=>cP⟩
  clear cL cR cP hk hmem ok hx hkd hkl
  repeat' (first|refine jx5 ?_|fail)
  refine aws_loopS (1::2::3::4::[5,6,24,25,26,27,28,29,30,31,32,33,34,35,36,37,38,39,40,41,42]) [1] (fun (j:Nat)=>[(6,.p (.i j)),(5,.p (.b ((m.pls.take j).any AL))),(3,.p (.i i)),(4,.p (.v (.string (strOf (m.kds.getD (i:Int).toNat default).1)))),(1,.o (.ptr 1 0 0))]) (fun _=>[(1,(1,some (.box 92 (mL m))))]) (fun j=>j≤m.pls.length) (fun j=>m.pls.length - j) 0 (Nat.zero_le _) (by exact knA) (by exact knA) ?_
  rintro j β' γ' hj
  try dsimp only at hj ⊢
  by_cases hjl:j < m.pls.length
  ·have e1:decide ((j:Int) < (m.pls.length:Int))=true:=decide_eq_true (by omega)
   have ej:(j:Int).toNat=j:=Int.toNat_natCast j
   have hs:=any_step (p:=AL) hjl
   rw [hat,show m.pls.getD j default=m.pls.getD (j:Int).toNat default by rw [ej]] at hs
   cases hb:(m.pls.take j).any AL with
   | true=>
    rw [hb,Bool.true_or] at hs
    clear next bad hwr hat
    as_aux_lemma=>
     repeat' (first|refine jx6 ?_|fail)
     exact ⟨j+1,_,by omega,by omega,.refl,by rw [hs];exact frA⟩
   | false=>
    rw [hb,Bool.false_or] at hs
    clear next bad hwr hat
    as_aux_lemma=>
     repeat' (first|refine jx6 ?_|fail)
     exact ⟨j+1,_,by omega,by omega,.refl,by rw [hs];exact frA⟩
  ·have e1:decide ((j:Int) < (m.pls.length:Int))=false:=decide_eq_false (by omega)
   rw [List.take_of_length_le (by omega)]
   generalize m.pls.any AL=A at hwr ⊢
   cases A with
   | false=>
    have q1:(!false)=true:=rfl
    rw [bad (by rw [hwr,Bool.not_false,Bool.or_true,Bool.or_true])]
    clear next bad hwr hat
    as_aux_lemma=>
     repeat' (first|refine jx6 ?_|fail)
     exact rt1 rfl rfl finS_p rfl
   | true=>
    have q1:(!true)=false:=rfl
    cases R with
    | false=>
     have q2:(!false)=true:=rfl
     rw [bad (by rw [hwr,Bool.not_false,Bool.true_or])]
     clear next bad hwr hat
     as_aux_lemma=>
      repeat' (first|refine jx6 ?_|fail)
      exact rt1 rfl rfl finS_p rfl
    | true=>
     cases q3:decide ((P:Int)≠m.part) with
     | true=>
      rw [bad (by rw [hwr,q3,Bool.true_or,Bool.or_true])]
      clear next bad hwr hat
      as_aux_lemma=>
       repeat' (first|refine jx6 ?_|fail)
       exact rt1 rfl rfl finS_p rfl
     | false=>
      have nx:=next (by rw [hwr,q3];rfl)
      clear next bad hwr hat
      as_aux_lemma=>
       repeat' (first|refine jx6 ?_|fail)
       exact ⟨i+1,_,by omega,⟨by omega,nx⟩,.refl,by exact frA⟩
 ·have d1:decide ((i:Int) < (m.kds.length:Int))=false:=decide_eq_false (by omega)
  have e:(!(m.kds.any (wrongK m)))=true:=by
   rw [Bool.not_eq_true',List.any_eq_false]
   intro x hxm
   obtain ⟨j,hj,rfl⟩:=List.getElem_of_mem hxm
   have:=hx j (by omega)
   rw [getD_at hj] at this
   rw [this];simp
  rw [e]
  as_aux_lemma=>
   repeat' (first|refine jx5 ?_|fail)
   exact rt1 rfl rfl finS_p rfl
end Go.Proofs.YtkgploeegbmofaaGreat.Wi
