/- the reference, chapters 03 and 06: dots, nodes, how entries stand to each other -/
import Derived.Test.YtcbhmngagibhmaaGreatPRA07
import Derived.Test.YtcbhmngagibhmaaGreatPRA11
namespace Go.Proofs.YtcbhmngagibhmaaGreat.Cr
open Go Go.RowKit Go.Aw Go.Aw.Cart Go.Aw.Ord Go.Proofs.YtcbhmngagibhmaaGreat.Ca
set_option linter.unusedVariables false
set_option linter.unusedSimpArgs false
set_option maxRecDepth 8000
set_option maxHeartbeats 4000000
theorem dotR_r (d:Dot):PCall Tryz.prog 233 [dV d] (.p (.b (dotF d))):=by
 refine pcall_of Tryz.func233 rfl (fun w0 F S0 M0=>?_)
 unfold dotF
 repeat' (first|refine jx2 ?_|refine jy0 ?_ ?_|exact spF|refine spQ fun hq hq'=>?_|refine spN fun hn=>?_|fail)
 all_goals refine rt1 rfl rfl finS_p (rb ?_)
 all_goals first|exact decide_eq_decide.2 (by omega)|exact decide_eq_true (by omega)|exact decide_eq_false (by omega)
instance {d:Dot}:PC Tryz.prog 233 [dV d] True (.p (.b (dotF d))):=⟨fun _=>dotR_r d⟩
theorem get_r (v:List Int) (n:Int) (hv:v.length=8):PCall Tryz.prog 234 [vV v,.p (.i n)] (.p (.k .u64 (getF v n))):=by
 refine pcall_of Tryz.func234 rfl (fun w0 F S0 M0=>?_)
 repeat' (first|refine jx2 ?_|refine jy0 ?_ ?_|exact spF|refine spQ fun hq hq'=>?_|refine spN fun hn=>?_|fail)
 refine aws_loopS [4,5,6,7,8,9,10,11,12,13,14,15,16] [] (fun (i:Nat)=>[(5,.p (.i i))]) (fun _=>[]) (fun i=>i≤8∧∀ j:Nat,j < i→(j:Int)+1≠n) (fun i=>8 - i) 0 ⟨Nat.zero_le _,fun j hj=>absurd hj (Nat.not_lt_zero _)⟩ (by exact knA) (by exact knA) ?_
 rintro i β γ ⟨hi,hx⟩
 by_cases h8:i < 8
 ·have d1:decide ((i:Int) < 8)=true:=decide_eq_true (by omega)
  by_cases hn:(i:Int)+1=n
  ·have d2:decide ((i:Int)+1=n)=true:=decide_eq_true hn
   have e:getF v n=v.getD (i:Int).toNat default:=by
    unfold getF
    rw [if_pos (by omega)]
    congr 1
    omega
   rw [e]
   repeat' (first|refine jx2 ?_|refine jy0 ?_ ?_|exact spF|refine spQ fun hq hq'=>?_|refine spN fun hn=>?_|fail)
   exact rt1 rfl rfl finS_p rfl
  ·have d2:decide ((i:Int)+1=n)=false:=decide_eq_false hn
   repeat' (first|refine jx2 ?_|refine jy0 ?_ ?_|exact spF|refine spQ fun hq hq'=>?_|refine spN fun hn=>?_|fail)
   refine ⟨i+1,_,by omega,⟨by omega,fun j hj=>?_⟩,.refl,by exact frA⟩
   by_cases e:j=i
   ·rw [e];exact hn
   ·exact hx j (by omega)
 ·have d1:decide ((i:Int) < 8)=false:=decide_eq_false (by omega)
  have e:getF v n=0:=by
   unfold getF
   rw [if_neg]
   intro k
   exact hx (n - 1).toNat (by omega) (by omega)
  rw [e]
  repeat' (first|refine jx2 ?_|refine jy0 ?_ ?_|exact spF|refine spQ fun hq hq'=>?_|refine spN fun hn=>?_|fail)
  exact rt1 rfl rfl finS_p rfl
instance {v:List Int} {n:Int}:PC Tryz.prog 234 [vV v,.p (.i n)] (v.length=8) (.p (.k .u64 (getF v n))):=⟨get_r v n⟩
theorem has_r (v:List Int) (d:Dot) (hv:v.length=8):PCall Tryz.prog 216 [vV v,dV d] (.p (.b (hasF v d))):=by
 refine pcall_of Tryz.func216 rfl (fun w0 F S0 M0=>?_)
 unfold hasF
 cases h:dotF d with
 | true=>
  repeat' (first|refine jx2 ?_|refine jy0 ?_ ?_|exact spF|refine spQ fun hq hq'=>?_|refine spN fun hn=>?_|fail)
  exact rt1 rfl rfl finS_p rfl
 | false=>
  repeat' (first|refine jx2 ?_|refine jy0 ?_ ?_|exact spF|refine spQ fun hq hq'=>?_|refine spN fun hn=>?_|fail)
  exact rt1 rfl rfl finS_p rfl
instance {v:List Int} {d:Dot}:PC Tryz.prog 216 [vV v,dV d] (v.length=8) (.p (.b (hasF v d))):=⟨has_r v d⟩
theorem lessD_r (a b:Dot):PCall Tryz.prog 235 [dV a,dV b] (.p (.b (decide (ltD a b)))):=by
 refine pcall_of Tryz.func235 rfl (fun w0 F S0 M0=>?_)
 unfold ltD
 repeat' (first|refine jx2 ?_|refine jy0 ?_ ?_|exact spF|refine spQ fun hq hq'=>?_|refine spN fun hn=>?_|fail)
 all_goals refine rt1 rfl rfl finS_p (rb ?_)
 all_goals first|exact decide_eq_decide.2 (by omega)|exact decide_eq_true (by omega)|exact decide_eq_false (by omega)
instance {a b:Dot}:PC Tryz.prog 235 [dV a,dV b] True (.p (.b (decide (ltD a b)))):=⟨fun _=>lessD_r a b⟩
theorem dot_r (e:Ent):PCall Tryz.prog 217 [eV e] (dV (dotE e)):=by
 refine pcall_of Tryz.func217 rfl (fun w0 F S0 M0=>?_)
 repeat' (first|refine jx2 ?_|refine jy0 ?_ ?_|exact spF|refine spQ fun hq hq'=>?_|refine spN fun hn=>?_|fail)
 exact rc1 rfl rfl rfl rfl rfl rfl finL_p rfl
instance {e:Ent}:PC Tryz.prog 217 [eV e] True (dV (dotE e)):=⟨fun _=>dot_r e⟩
theorem lessE_r (a b:Ent):PCall Tryz.prog 218 [eV a,eV b] (.p (.b (decide (ltE a b)))):=by
 refine pcall_of Tryz.func218 rfl (fun w0 F S0 M0=>?_)
 have hd:=vEqD (dotE a) (dotE b)
 by_cases h1:a.1=b.1
 ·have d1:decide (a.1≠b.1)=false:=decide_eq_false fun q=>q h1
  by_cases h2:dotE a=dotE b
  ·rw [decide_eq_true h2] at hd
   have d2:(!vEqB [.int .i64 (dotE a).1,.int .u64 (dotE a).2] [.int .i64 (dotE b).1,.int .u64 (dotE b).2])=false:=by rw [hd];rfl
   have e:decide (ltE a b)=decide (a.2.2.2 < b.2.2.2):=decide_eq_decide.2 (by unfold ltE;unfold dotE at h2;simp only [Prod.mk.injEq] at h2;omega)
   rw [e]
   repeat' (first|refine jx2 ?_|refine jy0 ?_ ?_|exact spF|refine spQ fun hq hq'=>?_|refine spN fun hn=>?_|fail)
   exact rt1 rfl rfl finS_p rfl
  ·rw [decide_eq_false h2] at hd
   have d2:(!vEqB [.int .i64 (dotE a).1,.int .u64 (dotE a).2] [.int .i64 (dotE b).1,.int .u64 (dotE b).2])=true:=by rw [hd];rfl
   have e:decide (ltE a b)=decide (ltD (dotE a) (dotE b)):=decide_eq_decide.2 (by unfold ltE ltD;unfold dotE at *;simp only [Prod.mk.injEq] at h2 ⊢;omega)
   rw [e]
   repeat' (first|refine jx2 ?_|refine jy0 ?_ ?_|exact spF|refine spQ fun hq hq'=>?_|refine spN fun hn=>?_|fail)
   exact rt1 rfl rfl finS_p rfl
 ·have d1:decide (a.1≠b.1)=true:=decide_eq_true h1
  have e:decide (ltE a b)=decide (a.1 < b.1):=decide_eq_decide.2 (by unfold ltE;omega)
  rw [e]
  repeat' (first|refine jx2 ?_|refine jy0 ?_ ?_|exact spF|refine spQ fun hq hq'=>?_|refine spN fun hn=>?_|fail)
  exact rt1 rfl rfl finS_p rfl
instance {a b:Ent}:PC Tryz.prog 218 [eV a,eV b] True (.p (.b (decide (ltE a b)))):=⟨fun _=>lessE_r a b⟩
end Go.Proofs.YtcbhmngagibhmaaGreat.Cr
namespace Go.Proofs.YtcbhmngagibhmaaGreat.Sh
open Go Go.RowKit Go.Aw Go.Aw.Sha
set_option linter.unusedVariables false
set_option linter.unusedSimpArgs false
set_option maxRecDepth 8000
set_option maxHeartbeats 4000000
def wordR (b w:List Nat) (t:Nat):Nat:=if t < 16 then word4 b t else wordN w t
abbrev wbox (w:List Nat):MO:=.box 310 (w.map uc)
attribute [local irreducible] rotr
theorem getD_lt {b:List Nat} {m:Nat} (h:∀ x∈b,x < m) (h0:0 < m) (i:Nat):b.getD i default < m:=by
 rw [List.getD_eq_getElem?_getD]
 cases hx:b[i]? with
 | none=>exact h0
 | some x=>exact h x (List.mem_of_getElem? hx)
theorem getD_drop {b:List Nat} {n i:Nat}:(b.drop n).getD i default=b.getD (n+i) default:=by
 rw [List.getD_eq_getElem?_getD,List.getD_eq_getElem?_getD,List.getElem?_drop]
theorem wbox_ren {ρ:Rn} {w:List Nat}:MO.ren ρ (wbox w)=wbox w:=by
 show MO.box _ ((w.map uc).map (AC.ren ρ))=_
 rw [List.map_map];rfl
theorem rword_c (n:Nat) (b w:List Nat) (ex:Bool) (t:Nat) (h:b.length=64∧w.length=64∧t < 64) (hb:okB b) (hw:∀ i,w.getD i default < M) :
  OCall Tryz.prog 246 [bytesN b ex,.o (.asl 1000 n 0 64 64),.p (.i (t:Int))] (memL [(1000,(n+1,some (wbox w)))]) (.p (.k .u64 ((wordR b w t:Nat):Int))) (memL [(1000,(n+1,some (wbox w)))]):=by
 refine ocall_of1 Tryz.func246 rfl (fun w0 F S0 M0=>?_)
 obtain ⟨hbl,hwl,ht⟩:=h
 by_cases h16:t < 16
 ·have hd:decide ((t:Int) < 16)=true:=decide_eq_true (by omega)
  repeat' (first|refine jx17 ?_|refine jy0 ?_ ?_|exact spF|refine spQ fun hq hq'=>?_|refine spN fun hn=>?_|fail)
  refine aws_draws [] mixed (by kernel_rfl) ?_
  repeat' (first|refine jx18 ?_|refine jy1 ?_ ?_|exact spF|refine spQ fun hq hq'=>?_|fail)
  repeat' (first|refine jx17 ?_|refine jy0 ?_ ?_|exact spF|refine spQ fun hq hq'=>?_|refine spN fun hn=>?_|fail)
  refine RetO.mk (ot1 rfl rfl finS_p (ri ?_)) ⟨finM_box rfl finL_p,trivial⟩
  have e0:(4 * (t:Int)).toNat=4 * t+0:=by omega
  have e1:(4 * (t:Int)+1).toNat=4 * t+1:=by omega
  have e2:(4 * (t:Int)+2).toNat=4 * t+2:=by omega
  have e3:(4 * (t:Int)+3).toNat=4 * t+3:=by omega
  rw [e0,e1,e2,e3]
  have k0:=getD_lt (m:=256) hb (by decide) (4 * t+0)
  have k1:=getD_lt (m:=256) hb (by decide) (4 * t+1)
  have k2:=getD_lt (m:=256) hb (by decide) (4 * t+2)
  have k3:=getD_lt (m:=256) hb (by decide) (4 * t+3)
  unfold wordR
  rw [if_pos h16,word4_eq (t:=t) getD_drop getD_drop getD_drop getD_drop k0 k1 k2 k3]
  refine congrArg Nat.cast ?_
  generalize b.getD (4 * t+0) default=b0 at *
  generalize b.getD (4 * t+1) default=b1 at *
  generalize b.getD (4 * t+2) default=b2 at *
  generalize b.getD (4 * t+3) default=b3 at *
  simp only [md]
  omega
 ·have hd:decide ((t:Int) < 16)=false:=decide_eq_false (by omega)
  have hx:=hw ((t:Int) - 15).toNat
  have hy:=hw ((t:Int) - 2).toNat
  repeat' (first|refine jx17 ?_|refine jy0 ?_ ?_|exact spF|refine spQ fun hq hq'=>?_|refine spN fun hn=>?_|fail)
  refine aws_draws [] mixed (by kernel_rfl) ?_
  repeat' (first|refine jx18 ?_|refine jy1 ?_ ?_|exact spF|refine spQ fun hq hq'=>?_|fail)
  repeat' (first|refine jx17 ?_|refine jy0 ?_ ?_|exact spF|refine spQ fun hq hq'=>?_|refine spN fun hn=>?_|fail)
  refine aws_draws [] mixed (by kernel_rfl) ?_
  repeat' (first|refine jx18 ?_|refine jy1 ?_ ?_|exact spF|refine spQ fun hq hq'=>?_|fail)
  repeat' (first|refine jx17 ?_|refine jy0 ?_ ?_|exact spF|refine spQ fun hq hq'=>?_|refine spN fun hn=>?_|fail)
  refine RetO.mk (ot1 rfl rfl finS_p (ri ?_)) ⟨finM_box rfl finL_p,trivial⟩
  have e15:((t:Int) - 15).toNat=t - 15:=by omega
  have e16:((t:Int) - 16).toNat=t - 16:=by omega
  have e2:((t:Int) - 2).toNat=t - 2:=by omega
  have e7:((t:Int) - 7).toNat=t - 7:=by omega
  rw [e15] at hx;rw [e2] at hy
  rw [e15,e16,e2,e7]
  unfold wordR wordN
  rw [if_neg h16]
  refine congrArg Nat.cast ?_
  have h7:=hw (t - 7)
  have h1:=hw (t - 16)
  generalize w.getD (t - 15) default=x at *
  generalize w.getD (t - 2) default=y at *
  generalize w.getD (t - 16) default=p at *
  generalize w.getD (t - 7) default=q at *
  exact wordN_eq hx hy h1 h7
instance {c n:Nat} {b w:List Nat} {ex:Bool} {t:Nat}:OC Tryz.prog 246 [bytesN b ex,.o (.asl c n 0 64 64),.p (.i (t:Int))] [(c,(n+1,some (wbox w)))] [] ((b.length=64∧w.length=64∧t < 64)∧okB b∧∀ i,w.getD i default < M)
  (.p (.k .u64 ((wordR b w t:Nat):Int))) [(c,(n+1,some (wbox w)))]:=⟨fun h=>by
 have:=(rword_c n b w ex t h.1 h.2.1 h.2.2).one c
 simp only [List.map_cons,List.map_nil,Option.map_some,wbox_ren] at this
 exact this⟩
end Go.Proofs.YtcbhmngagibhmaaGreat.Sh
