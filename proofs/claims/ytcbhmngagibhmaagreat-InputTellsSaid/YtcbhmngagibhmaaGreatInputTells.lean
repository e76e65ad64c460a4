/- InputTells: the contracts put together; the statement, out of the law's contract. -/
import Derived.Test.YtcbhmngagibhmaaGreatPRC09
import Derived.Test.YtcbhmngagibhmaaGreatPRC06
import Derived.Test.YtcbhmngagibhmaaGreatPRC07
import Derived.Test.YtcbhmngagibhmaaGreatPRA01
import Derived.Test.YtcbhmngagibhmaaGreatRows
import Derived.WalkKit
import Derived.ProofKit
import Derived.OpenShut
import Derived.ShutString
import Derived.ChangeOld
import Derived.Below
namespace Go.Proofs.YtcbhmngagibhmaaGreat.Wi
open Go Go.RowKit Go.Aw Go.Aw.Cart Go.Aw.Tree Go.Proofs.YtcbhmngagibhmaaGreat.Ca Go.Proofs.YtcbhmngagibhmaaGreat.Rg
set_option linter.unusedVariables false
set_option linter.unusedSimpArgs false
set_option maxRecDepth 8000
set_option maxHeartbeats 4000000
theorem body_in (k:Int) {r:RS} (o:rdOk r):MIn (bodyS k r).1.msg∧okB (bodyS k r).1.key∧(bodyS k r).1.key.length≤20:=by
 unfold bodyS
 split
 ·have o2:=(par_small 1099511627776).rd o
  obtain ⟨h1,h2⟩:=text_fit (most:=20) (by decide) _ o2
  exact ⟨zeroM_in,h1,Int.ofNat_le.1 h2⟩
 split
 ·have o2:=(par_small 1099511627776).rd o
  obtain ⟨h1,h2⟩:=text_fit (most:=20) (by decide) _ o2
  exact ⟨zeroM_in,h1,Int.ofNat_le.1 h2⟩
 split
 ·exact ⟨zeroM_in,nil_ok,Nat.zero_le _⟩
 split
 ·obtain ⟨h1,h2⟩:=text_fit (most:=16777216) (by decide) _ o
  exact ⟨readM_in h1 (show (textS 16777216 r).1.length≤1000000000 by omega),nil_ok,Nat.zero_le _⟩
 ·exact ⟨zeroM_in,nil_ok,Nat.zero_le _⟩
theorem readI_in {b:List Nat} (hb:okB b) (hl:b.length≤1000000000):MIn (readI b).1.msg∧okB (readI b).1.key:=by
 unfold readI
 split
 ·exact ⟨zeroM_in,nil_ok⟩
 ·have:=body_in (smallS 8 (b,0)).1 ((par_small 8).rd (r:=(b,0)) ⟨hb,hl⟩)
  exact ⟨this.1,this.2.1⟩
theorem readI_01 (b:List Nat):(readI b).2=0∨(readI b).2=3:=by
 unfold readI
 split
 ·exact .inr rfl
 ·exact .inl rfl
theorem inputTells_w (x y:Inp) (b:List Nat) (hx:IGo x) (hy:IGo y) (hb:okB b) (hbl:b.length≤9223372036854775807):PCall Tryz.prog 5 [iV x,iV y,.p (.sl 1 (b.map bR) false)] (.p (.b true)):=by
 by_cases hl:b.length≤3000
 ·obtain ⟨hz,kz⟩:=readI_in hb (show b.length≤1000000000 by omega)
  refine inputTells_g x y (readI b).1 (mL x.msg) (mL y.msg) (mL (readI b).1.msg) (mL_len hx.msg.d32) (mL_len hy.msg.d32) (mL_len hz.d32) b (if rightI x=true then inpB x else []) (if rightI x=true then 0 else 3) (readI b).2 (rightI x) (sameI x y) (greatI x) (greatI y) hbl alive30_w (igreat_w x hx) (igreat_w y hy) (fun h1 h2 h3=>?_)
  have ix:=iin_of hx h1
  have iy:=iin_of hy h2
  have kl:x.key.length≤1000000:=by have:=ix.kl;omega
  have ss:=refSame30_w (readI b).1 (readI b).1 hz hz kz kz
  rw [sameI_refl] at ss
  refine ⟨?_,readI_01 b,fun q=>by rw [q];exact ⟨rfl,rfl⟩,fun q=>by rw [q];rfl,as30_w x ix.msg,as30_w y iy.msg,as30_w _ hz,?_,iread_w b hb (by omega),refRead30_w b hb (by omega),iright_w x ix.msg ix.key kl,refRight30_w x ix.msg ix.key kl,isame_w x y ix.msg iy.msg ix.key iy.key,refSame30_w x y ix.msg iy.msg ix.key iy.key,ss,fun q=>by rw [if_pos q];exact refWrite30_w x ix q⟩
  ·split
   ·exact inpB_ok ix
   ·exact nil_ok
  ·cases hr:rightI x with
   | true=>rw [if_pos rfl,if_pos rfl];exact iwrite_ok x ix hr
   | false=>rw [if_neg (by decide),if_neg (by decide)];exact iwrite_no x ix.msg ix.key kl hr
 ·exact inputTells_g x y zeroI (mL x.msg) (mL y.msg) (mL zeroM) (mL_len hx.msg.d32) (mL_len hy.msg.d32) rfl b [] 0 0 true true (greatI x) (greatI y) hbl alive30_w (igreat_w x hx) (igreat_w y hy) (fun h1 h2 h3=>absurd h3 hl)
theorem inputTells_a (x y:Inp) (b:List Nat) (hx:IGo x) (hy:IGo y) (hb:okB b∧b.length≤9223372036854775807):PCall Tryz.prog 5 [argAV true (iRow x),argAV true (iRow y),argAV false [.sl 1 (b.map bR) false]] (.p (.b true)):=by
 rw [i_arg,i_arg]
 exact inputTells_w x y b hx hy hb.1 hb.2
end Go.Proofs.YtcbhmngagibhmaaGreat.Wi
namespace Go.Proofs.YtcbhmngagibhmaaGreat.Wi
open Go Go.ChangeShapes Go.WideShapes Go.ChangeAt Go.RowKit Go.Aw
set_option linter.unusedVariables false
theorem ownInputTells:ownKnob Tryz.prog.godebug=none:=by kernel_rfl
theorem laidOutInputTells:laidOutB Tryz.prog=true:=by kernel_rfl
set_option maxRecDepth 100000 in
theorem liftedInputTells (os:Os) (started:os.Started) (H:Type) (enc:TypeId × Value→H) :
  ReturnsInHanded {} Tryz.checked os 5 .any (Rows.inputTellsSpec.pre6 enc Tryz.prog Tryz.f5 Rows.inputTellsRow.domain false) (Rows.inputTellsSpec.post enc Tryz.prog Tryz.f5 false true false false):=by
 refine returnsInHanded_of_change (C:=Tryz.checked) ownInputTells started (by kernel_rfl) Tryz.func5
  (ChangeSpec.witness6 (enc:=enc) (C:=Tryz.checked) false ⟨#[],#[.agg (#[.int .i64 0,.int .i64 0,.string ByteArray.empty,.int .i64 0,.int .i64 0,.int .i64 0,.int .u64 0,.int .i64 0,.int .i64 0,.int .i64 0,.int .i64 0,.int .i64 0]++Array.replicate 32 (.int .u8 0)++#[.slice none 0 0,.slice none 0 0,.slice none 0 0]),.agg (#[.int .i64 0,.int .i64 0,.string ByteArray.empty,.int .i64 0,.int .i64 0,.int .i64 0,.int .u64 0,.int .i64 0,.int .i64 0,.int .i64 0,.int .i64 0,.int .i64 0]++Array.replicate 32 (.int .u8 0)++#[.slice none 0 0,.slice none 0 0,.slice none 0 0]),.slice none 0 0],[]⟩ 8 (by kernel_rfl) (by kernel_rfl) (by kernel_rfl) (by kernel_rfl)) ?_
 intro W base args ds gs before hval0 hW hcnd _
 have hval:∀ (j:Nat) t v,Tryz.f5.params[j]?=some t→args[j]?=some v→Value.okWide Tryz.prog W .any base t v:=hval0
 have hW':=hW
 obtain ⟨p,q,hA0,hV,rfl,hfz,hnd⟩:=hW
 have hA:DataW.TrodAll enc Tryz.prog W 0 (fun _=>true) true Tryz.f5.params.toList args.toList ds p:=hA0
 have hA':=hA
 rw [Tryz.params5] at hA hval
 obtain ⟨v0,vs0,d0,ds0,p0,q0,hargs,rfl,rfl,h0,r0⟩:=trodAll_cons hA
 obtain ⟨v1,vs1,d1,ds1,p1,q1,rfl,rfl,rfl,h1,r1⟩:=trodAll_cons r0
 obtain ⟨v2,vs2,d2,ds2,p2,q2,rfl,rfl,rfl,h2,r2⟩:=trodAll_cons r1
 obtain ⟨rfl,rfl,rfl⟩:=trodAll_nil r2
 obtain rfl:args = #[v0,v1,v2]:=by cases args;simp_all
 obtain ⟨rfl,rfl⟩:=trodVars_none hV
 obtain ⟨a0,k0,hh0⟩:=arg_holds (inferInstance:TI Tryz.prog 81 _ _ _) rd_inp (hval 0 _ v0 rfl rfl) h0
 obtain ⟨a1,k1,hh1⟩:=arg_holds (inferInstance:TI Tryz.prog 81 _ _ _) rd_inp (hval 1 _ v1 rfl rfl) h1
 obtain ⟨a2,k2,hh2⟩:=arg_holds (inferInstance:TI Tryz.prog 29 _ _ _) rd_bytesP (hval 2 _ v2 rfl rfl) h2
 clear hA0 hval0
 refine (law_calls (vs:=[v0,v1,v2]) (inputTells_a a0 a1 a2 k0 k1 k2) (.cons hh0 (.cons hh1 (.cons hh2 .nil)))).mono fun e W' ⟨he,bel⟩=>?_
 subst he
 exact ⟨_,rfl,_,_,_,[],_,[],hW',trodAll_mk1 (shut_bool Tryz.underlying4 _),trodAll_again laidOutInputTells bel (by kernel_rfl) hA',rfl,bel.frame _,fun h=>by cases h⟩
set_option maxHeartbeats 4000000 in
set_option maxRecDepth 100000 in
theorem closedInputTells:joinedFacts Tryz.pinned.checked.prog 5 Tryz.f5 Rows.inputTellsSpec Rows.inputTellsRow=true:=by
 unfold joinedFacts
 simp only [Bool.and_eq_true]
 repeat' apply And.intro
 all_goals as_aux_lemma=>kernel_rfl
theorem inputTells_holds:Rows.InputTellsSaid:=
 OpenClaim.holds_of_wide 5 Tryz.f5 rfl rfl rfl rfl rfl rfl rfl ⟨rfl,rfl,rfl,rfl,rfl⟩ rfl rfl rfl rfl rfl (by as_aux_lemma=>kernel_rfl) Tryz.func5 closedInputTells
  (of_decide_eq_true (by as_aux_lemma=>kernel_rfl)) (by unfold Func.isWrapper;first|(rw [if_pos (by decide +kernel)];kernel_rfl)|(rw [if_neg (by decide +kernel)];exact ⟨rfl,rfl⟩))
  (fun os started H enc _=>liftedInputTells os started H enc)
#print axioms inputTells_holds
end Go.Proofs.YtcbhmngagibhmaaGreat.Wi
