/- sessions: which may be, are equal; one in a round, one that is over -/
import Derived.Test.YtkgploeegbmofaaGreatSEA24
import Derived.Test.YtkgploeegbmofaaGreatSEA25
import Derived.Test.YtkgploeegbmofaaGreatSEA31
import Derived.Test.YtkgploeegbmofaaGreatSEA23
import Derived.Test.YtkgploeegbmofaaGreatSEA20
import Derived.Test.YtkgploeegbmofaaGreatSEA43
namespace Go.Aw
open Go Go.RowKit
set_option linter.unusedVariables false
set_option linter.unusedSimpArgs false
section
variable {C:Ctx} {o:Oper} {σ:St} {T:TypeId} {x y:Operand} {k:TK} {sz by_ ob g n off:Nat} {ty:TypeId}
theorem lop_ld4 {a0 a1 a2 a3 a4 a5 a6 a7 a8 a9 b0:AC} (ho:o.op=.load T x) (hT:TI C.P T k sz by_) (hx:σ.look x=.o (.ptr ob g (0+6))) (hm:σ.mem ob=(n,some (.box ty [a0,a1,a2,a3,a4,a5,a6,a7,a8,a9,b0]))) (hn:n=g+1) (hk:k.agg=true) (hs:sz=4) (hd:dOk C o.dst=true):LOp C o σ ⟨.a [a6,a7,a8,a9],[]⟩ (fun y=>y == ob):=by
 subst hs
 exact lop_load_box (o:=o) ho hx hm hn hk (by show 0+6+4≤11;omega) hd
theorem lop_st4 {a0 a1 a2 a3 a4 a5 a6 a7 a8 a9 b0 b1 b2 b3 b4:AC} (ho:o.op=.store T x y) (hT:TI C.P T k sz by_) (hdst:o.dst=none) (hx:σ.look x=.o (.ptr ob g (0+6))) (hy:σ.look y=.a [b1,b2,b3,b4]) (hm:σ.mem ob=(n,some (.box ty [a0,a1,a2,a3,a4,a5,a6,a7,a8,a9,b0]))) (hn:n=g+1) (hs:sz=4):LOp C o σ ⟨.un,[(ob,(n,some (.box ty [a0,a1,a2,a3,a4,a5,b1,b2,b3,b4,b0])))]⟩ (fun z=>z == ob):=by
 subst hs
 exact lop_store (o:=o) (hT:=hT) (s:=.agg [b1,b2,b3,b4]) ho hdst hx hy hm hn (by show 0+6+4≤11;omega) rfl
end
theorem stoS {C:Ctx} {o:Oper} {σ:St} {e:Eff} {ro:Nat→Bool} (h:LOp C o σ e ro:=by
  first|(apply lop_st4;(focus rfl);(focus exact inferInstance);(focus rfl);(focus rfl);(focus rfl);(focus rfl);(focus rfl);(focus rfl))|exact stoB|fail):LOp C o σ e ro:=h
section steps
variable {C:Ctx} {ops:Array Oper} {o:Oper} {rest:List Oper} {K:St→Prop} {σ:St} {e:Eff} {ro:Nat→Bool} {W:List (Nat × Nat)} {i:Nat}
theorem rnSW (hg:Guard ops σ o true:=by first|exact gd_n rfl rfl|exact gd_t rfl rfl rfl rfl|exact gd_t rfl rfl rfl (by assumption)) (hd:o.dst=none:=by rfl) (h:LOp C o σ e ro:=by exact stoS) (hk:RunN C ops rest K (e.app none σ)):RunN C ops (o::rest) K σ:=rn_sto hg hd h hk
end steps
theorem vEq4 (a b c d a' b' c' d':Int):vEqB [.int .i64 a,.int .i64 b,.int .i64 c,.int .i64 d] [.int .i64 a',.int .i64 b',.int .i64 c',.int .i64 d']=(decide (a=a')&&(decide (b=b')&&(decide (c=c')&&decide (d=d')))):=by
 simp only [vEqB,vEq,Bool.and_true]
end Go.Aw
namespace Go.Proofs.YtkgploeegbmofaaGreat.Wi
open Go Go.RowKit Go.Aw Go.Aw.Cart Go.Aw.Tree Go.Proofs.YtkgploeegbmofaaGreat.Ca Go.Proofs.YtkgploeegbmofaaGreat.Rg
set_option linter.unusedVariables false
set_option linter.unusedSimpArgs false
set_option maxRecDepth 8000
set_option maxHeartbeats 4000000
structure Ses where
 id:Int
 self:Int
 peer:Int
 part:Int
 round:Int
 pls:List Int
 wb:Int
 wc:Int
 wm:Int
 wt:Int
 due:Int
abbrev sLx (s:Ses) (c:AC):List AC:=[.p (.i s.id),.p (.i s.self),.p (.i s.peer),.p (.i s.part),.p (.i s.round),c,.p (.i s.wb),.p (.i s.wc),.p (.i s.wm),.p (.i s.wt),.p (.i s.due)]
abbrev sL (s:Ses):List AC:=sLx s (.p (.sl 1 (s.pls.map iRw) false))
abbrev sV (s:Ses):AV:=.a (sL s)
theorem finSe {σ:St} {K:Nat→Bool} {s:Ses} {c d:AC} (h:FinC σ K c d):All2 (FinC σ K) (sLx s c) (sLx s d):=
 .cons .p (.cons .p (.cons .p (.cons .p (.cons .p (.cons h (.cons .p (.cons .p (.cons .p (.cons .p (.cons .p .nil))))))))))
def plsB (r:Int) (l:List Int):Bool:=if r=0∨r=1 then decide ((l.length:Int)=0) else lvlF l (r - 1)
def rightS (s:Ses):Bool:=
 Bo.win s.self 1 8&&(Bo.win s.peer 1 8&&(decide (s.self≠s.peer)&&(Bo.win s.id 1 1099511627776&&(Bo.win s.part 0 7&&(Bo.win s.round 0 3&&(plsB s.round s.pls&&(Aw.Bo.rightB s.wb s.wc s.wm s.wt&&Bo.win s.due 0 2199023255552)))))))
def sameS (a b:Ses):Bool:=
 decide (a.pls=b.pls)&&(decide (a.id=b.id)&&(decide (a.self=b.self)&&(decide (a.peer=b.peer)&&(decide (a.part=b.part)&&(decide (a.round=b.round)&&((decide (a.wb=b.wb)&&(decide (a.wc=b.wc)&&(decide (a.wm=b.wm)&&decide (a.wt=b.wt))))&&decide (a.due=b.due)))))))
def overS (s:Ses):Ses:={ s with round:=0,pls:=[] }
def rndS (s:Ses) (n:Int) (l:List Int) (now:Int):Ses:={ s with round:=n,pls:=l,wt:=0,due:=now+Aw.Bo.gapF s.wb s.wc 0 }
def zeroS:Ses:=⟨0,0,0,0,0,[],0,0,0,0,0⟩
namespace S1
theorem lopC {C:Ctx} {o:Oper} {σ:St} {e:Eff} {ro:Nat→Bool} (h:LOp C o σ e ro:=by
  first|(apply gLoad;(focus rfl);(apply lop_ld4;(focus rfl);(focus exact inferInstance);(focus rfl);(focus rfl);(focus rfl);(focus rfl);(focus rfl);(focus rfl)))|exact T2.lopC|(apply lop_build6;(focus rfl);(focus exact inferInstance);(focus exact inferInstance);(focus first|exact lk_m1 rfl|exact lk_m2 rfl|exact lk_m3 rfl|exact lk_o rfl|exact lk_a2 rfl|exact lk_a3 rfl|exact lk_a4 rfl|exact lk_a1 rfl|exact lk_a5 rfl|exact lk_a6 rfl|exact lk_a7 rfl|exact lk_a8 rfl|exact lk_a rfl);(focus first|exact lk_m1 rfl|exact lk_m2 rfl|exact lk_m3 rfl|exact lk_o rfl|exact lk_a2 rfl|exact lk_a3 rfl|exact lk_a4 rfl|exact lk_a1 rfl|exact lk_a5 rfl|exact lk_a6 rfl|exact lk_a7 rfl|exact lk_a8 rfl|exact lk_a rfl);(focus first|exact lk_m1 rfl|exact lk_m2 rfl|exact lk_m3 rfl|exact lk_o rfl|exact lk_a2 rfl|exact lk_a3 rfl|exact lk_a4 rfl|exact lk_a1 rfl|exact lk_a5 rfl|exact lk_a6 rfl|exact lk_a7 rfl|exact lk_a8 rfl|exact lk_a rfl);(focus first|exact lk_m1 rfl|exact lk_m2 rfl|exact lk_m3 rfl|exact lk_o rfl|exact lk_a2 rfl|exact lk_a3 rfl|exact lk_a4 rfl|exact lk_a1 rfl|exact lk_a5 rfl|exact lk_a6 rfl|exact lk_a7 rfl|exact lk_a8 rfl|exact lk_a rfl);(focus first|exact lk_m1 rfl|exact lk_m2 rfl|exact lk_m3 rfl|exact lk_o rfl|exact lk_a2 rfl|exact lk_a3 rfl|exact lk_a4 rfl|exact lk_a1 rfl|exact lk_a5 rfl|exact lk_a6 rfl|exact lk_a7 rfl|exact lk_a8 rfl|exact lk_a rfl);(focus first|exact lk_m1 rfl|exact lk_m2 rfl|exact lk_m3 rfl|exact lk_o rfl|exact lk_a2 rfl|exact lk_a3 rfl|exact lk_a4 rfl|exact lk_a1 rfl|exact lk_a5 rfl|exact lk_a6 rfl|exact lk_a7 rfl|exact lk_a8 rfl|exact lk_a rfl);(focus decide);(focus first|exact sn2 rfl|exact sn3 rfl|exact sn4 rfl|exact sn1 rfl|exact sn5 rfl|exact sn6 rfl|exact sn7 rfl|exact sn8 rfl|exact sn9 rfl|exact sn10 rfl|exact sn11 rfl|exact sn12 rfl|rfl);(focus rfl))|(apply lop_build0;(focus rfl);(focus exact inferInstance);(focus exact inferInstance);(focus decide);(focus first|exact sn2 rfl|exact sn3 rfl|exact sn4 rfl|exact sn1 rfl|exact sn5 rfl|exact sn6 rfl|exact sn7 rfl|exact sn8 rfl|exact sn9 rfl|exact sn10 rfl|exact sn11 rfl|exact sn12 rfl|rfl);(focus rfl))|fail):LOp C o σ e ro:=h
section steps
variable {C:Ctx} {ops:Array Oper} {o:Oper} {rest:List Oper} {K:St→Prop} {σ:St} {e:Eff} {ro:Nat→Bool} {W:List (Nat × Nat)} {i:Nat}
theorem rnC {d:Nat} (hg:Guard ops σ o true:=by first|exact gd_n rfl rfl|exact gd_t rfl rfl rfl rfl|exact gd_t rfl rfl rfl (by assumption)) (hd:o.dst=some d:=by rfl) (h:LOp C o σ e ro:=by exact lopC) (hk:RunN C ops rest K (e.app (some d) σ)):RunN C ops (o::rest) K σ:=rn_any hg hd h hk
end steps
end S1
open S1
theorem swithin_w (n a b:Int):PCall Tryz.prog 52 [.p (.i n),.p (.i a),.p (.i b)] (.p (.b (Bo.win n a b))):=by
 refine pcall_of Tryz.func52 rfl (fun w0 F S0 M0=>?_)
 unfold Bo.win
 by_cases h:a≤n
 ·have d1:decide (a≤n)=true:=decide_eq_true h
  rw [decide_eq_decide.2 (show (a≤n∧n≤b)↔n≤b from ⟨fun q=>q.2,fun q=>⟨h,q⟩⟩)]
  as_aux_lemma=>
   repeat' (first|refine jx5 ?_|refine jy0 ?_ ?_|exact spF|refine spQ fun hq hq'=>?_|refine spN fun hn=>?_|fail)
   exact rt1 rfl rfl finS_p rfl
 ·have d1:decide (a≤n)=false:=decide_eq_false h
  rw [decide_eq_false (show ¬ (a≤n∧n≤b) from fun q=>h q.1)]
  as_aux_lemma=>
   repeat' (first|refine jx5 ?_|refine jy0 ?_ ?_|exact spF|refine spQ fun hq hq'=>?_|refine spN fun hn=>?_|fail)
   exact rt1 rfl rfl finS_p rfl
instance swithin_i {n a b:Int}:PC Tryz.prog 52 [.p (.i n),.p (.i a),.p (.i b)] True (.p (.b (Bo.win n a b))):=⟨fun _=>swithin_w n a b⟩
theorem isNow_w (n:Int):PCall Tryz.prog 55 [.p (.i n)] (.p (.b (Bo.win n 0 1099511627776))):=by
 refine pcall_of Tryz.func55 rfl (fun w0 F S0 M0=>?_)
 as_aux_lemma=>
  repeat' (first|refine jx5 ?_|refine jy0 ?_ ?_|exact spF|refine spQ fun hq hq'=>?_|refine spN fun hn=>?_|fail)
  exact rt1 rfl rfl finS_p rfl
theorem places_w (r:Int) (l:List Int) (ex:Bool) (hr:0≤r∧r≤3) (hl:l.length≤9223372036854775807):PCall Tryz.prog 53 [.p (.i r),.p (.sl 1 (l.map iRw) ex)] (.p (.b (plsB r l))):=by
 refine pcall_of Tryz.func53 rfl (fun w0 F S0 M0=>?_)
 haveI:∀ p:Int,PC Tryz.prog 98 [.p (.i p)] True (.p (.i (levelF p))):=fun p=>⟨fun _=>Tr.level_c p⟩
 by_cases r0:r=0
 ·have d0:decide (r=0)=true:=decide_eq_true r0
  rw [show plsB r l=decide ((l.length:Int)=0) by unfold plsB;rw [if_pos (.inl r0)]]
  as_aux_lemma=>
   repeat' (first|refine jx5 ?_|refine jy0 ?_ ?_|exact spF|refine spQ fun hq hq'=>?_|refine spN fun hn=>?_|fail)
   exact rt1 rfl rfl finS_p rfl
 have d0:decide (r=0)=false:=decide_eq_false r0
 by_cases r1:r=1
 ·have d1:decide (r=1)=true:=decide_eq_true r1
  rw [show plsB r l=decide ((l.length:Int)=0) by unfold plsB;rw [if_pos (.inr r1)]]
  as_aux_lemma=>
   repeat' (first|refine jx5 ?_|refine jy0 ?_ ?_|exact spF|refine spQ fun hq hq'=>?_|refine spN fun hn=>?_|fail)
   exact rt1 rfl rfl finS_p rfl
 have d1:decide (r=1)=false:=decide_eq_false r1
 rw [show plsB r l=lvlF l (r - 1) by unfold plsB;rw [if_neg (by omega)]]
 repeat' (first|refine jx5 ?_|refine jy0 ?_ ?_|exact spF|refine spQ fun hq hq'=>?_|refine spN fun hn=>?_|fail)
 refine aws_loopS [4,5,6,18,19,20,21,22,23,24,25,26,27,28,29,30,31,32,33,34,35,36,37,38,39,40,41] [] (fun (i:Nat)=>[(18,.p (.i i))]) (fun _=>[]) (fun i=>i≤l.length∧∀ j,j < i→lvlAt (r - 1) l j=true) (fun i=>l.length - i) 0 ⟨Nat.zero_le _,fun j hj=>absurd hj (Nat.not_lt_zero _)⟩ (by exact knA) (by exact knA) ?_
 rintro i β γ ⟨hi,hx⟩
 by_cases hil:i < l.length
 ·have hlt:decide ((i:Int) < (l.length:Int))=true:=decide_eq_true (by omega)
  have ei:(i:Int).toNat=i:=Int.toNat_natCast i
  have hbad:lvlAt (r - 1) l i=false→lvlF l (r - 1)=false:=fun q=>decide_eq_false fun z=>by have:=z.1 i hil;rw [q] at this;cases this
  have hgood:lvlAt (r - 1) l i=true→∀ j,j < i+1→lvlAt (r - 1) l j=true:=fun q j hj=>by
   by_cases e:j=i
   ·rw [e];exact q
   ·exact hx j (by omega)
  unfold lvlAt at hbad hgood
  rw [show l.getD i default=l.getD (i:Int).toNat default by rw [ei]] at hbad hgood
  by_cases h1:levelF (l.getD (i:Int).toNat default)=r - 1
  ·have d1:decide (levelF (l.getD (i:Int).toNat default)≠r - 1)=false:=decide_eq_false fun q=>q h1
   rw [decide_eq_true h1,Bool.true_and] at hbad hgood
   by_cases h0:i=0
   ·have d2:decide (0 < (i:Int))=false:=decide_eq_false (by omega)
    rw [decide_eq_true h0,Bool.true_or] at hgood
    as_aux_lemma=>
     repeat' (first|refine jx5 ?_|refine jy0 ?_ ?_|exact spF|refine spQ fun hq hq'=>?_|refine spN fun hn=>?_|fail)
     exact ⟨i+1,_,by omega,⟨by omega,hgood rfl⟩,.refl,by exact frA⟩
   ·have d2:decide (0 < (i:Int))=true:=decide_eq_true (by omega)
    have ej:((i:Int) - 1).toNat=i - 1:=by omega
    rw [decide_eq_false h0,Bool.false_or,← ej] at hbad hgood
    by_cases h2:l.getD ((i:Int) - 1).toNat default < l.getD (i:Int).toNat default
    ·have d3:decide (l.getD (i:Int).toNat default≤l.getD ((i:Int) - 1).toNat default)=false:=decide_eq_false (by omega)
     as_aux_lemma=>
      repeat' (first|refine jx5 ?_|refine jy0 ?_ ?_|exact spF|refine spQ fun hq hq'=>?_|refine spN fun hn=>?_|fail)
      exact ⟨i+1,_,by omega,⟨by omega,hgood (decide_eq_true h2)⟩,.refl,by exact frA⟩
    ·have d3:decide (l.getD (i:Int).toNat default≤l.getD ((i:Int) - 1).toNat default)=true:=decide_eq_true (by omega)
     rw [hbad (decide_eq_false h2)]
     as_aux_lemma=>
      repeat' (first|refine jx5 ?_|refine jy0 ?_ ?_|exact spF|refine spQ fun hq hq'=>?_|refine spN fun hn=>?_|fail)
      exact rt1 rfl rfl finS_p rfl
  ·have d1:decide (levelF (l.getD (i:Int).toNat default)≠r - 1)=true:=decide_eq_true h1
   rw [decide_eq_false h1,Bool.false_and] at hbad
   rw [hbad rfl]
   as_aux_lemma=>
    repeat' (first|refine jx5 ?_|refine jy0 ?_ ?_|exact spF|refine spQ fun hq hq'=>?_|refine spN fun hn=>?_|fail)
    exact rt1 rfl rfl finS_p rfl
 ·have hlt:decide ((i:Int) < (l.length:Int))=false:=decide_eq_false (by omega)
  have e:lvlF l (r - 1)=decide (0 < (l.length:Int)):=decide_eq_decide.2 ⟨fun q=>by omega,fun q=>⟨fun j hj=>hx j (by omega),by omega⟩⟩
  rw [e]
  as_aux_lemma=>
   repeat' (first|refine jx5 ?_|refine jy0 ?_ ?_|exact spF|refine spQ fun hq hq'=>?_|refine spN fun hn=>?_|fail)
   exact rt1 rfl rfl finS_p rfl
instance places_i {r:Int} {l:List Int} {ex:Bool}:PC Tryz.prog 53 [.p (.i r),.p (.sl 1 (l.map iRw) ex)] ((0≤r∧r≤3)∧l.length≤9223372036854775807) (.p (.b (plsB r l))):=⟨fun h=>places_w r l ex h.1 h.2⟩
theorem send_w (s:Ses):PCall Tryz.prog 57 [sV s] (sV (overS s)):=by
 refine pcall_of Tryz.func57 rfl (fun w0 F S0 M0=>?_)
 as_aux_lemma=>
  repeat' (first|refine jx5 ?_|refine jy0 ?_ ?_|exact spF|refine spQ fun hq hq'=>?_|refine spN fun hn=>?_|fail)
  exact rc1 rfl rfl rfl rfl rfl rfl (finSe (s:=overS s) .nil) rfl
instance send_i {s:Ses}:PC Tryz.prog 57 [sV s] True (sV (overS s)):=⟨fun _=>send_w s⟩
theorem round_w (s:Ses) (c:PVal) (n:Int) (l:List Int) (now:Int) (hw:Aw.Bo.rightB s.wb s.wc s.wm s.wt=true) (hn:0≤now∧now≤1099511627776) (hc:∀ (σ:St) (K:Nat→Bool),FinC σ K (.p c) (.p (.sl 1 (l.map iRw) false))):PCall Tryz.prog 67 [sV s,.p (.i n),.p c,.p (.i now)] (sV (rndS s n l now)):=by
 refine pcall_of Tryz.func67 rfl (fun w0 F S0 M0=>?_)
 have hr:=Aw.Bo.right_of hw
 have h0:Aw.Bo.rightB s.wb s.wc s.wm 0=true:=Aw.Bo.right_mk (by omega)
 have hg:=Aw.Bo.gap_in (b:=s.wb) (c:=s.wc) (t:=0) (by omega) (by omega)
 haveI i1:PC Tryz.prog 59 [.a [.p (.i s.wb),.p (.i s.wc),.p (.i s.wm),.p (.i 0)]] True (.p (.i (Aw.Bo.gapF s.wb s.wc 0))):=⟨fun _=>Bo.gap_w s.wb s.wc s.wm 0 h0⟩
 as_aux_lemma=>
  repeat' (first|refine jx14 ?_|refine jy0 ?_ ?_|exact spF|refine spQ fun hq hq'=>?_|refine spN fun hn=>?_|fail)
  exact rc1 rfl rfl rfl rfl rfl rfl (finSe (s:=rndS s n l now) (hc _ _)) rfl
end Go.Proofs.YtkgploeegbmofaaGreat.Wi
namespace Go.Aw.Clash
open Go.Aw Go.Aw.Sha Go.Aw.Tree
set_option linter.unusedVariables false
set_option linter.unusedSimpArgs false
attribute [local irreducible] sum
def unTo (T:List Nat) (K:List Int) (D:List (List Nat)):Nat→List Int
 | 0=>[]
 | i+1=>unTo T K D i++(if row T (K.getD i default).toNat=D.getD i default then [] else [K.getD i default])
theorem unTo_len (T:List Nat) (K:List Int) (D:List (List Nat)):∀ i,(unTo T K D i).length≤i
 | 0=>Nat.le_refl _
 | i+1=>by
  have:=unTo_len T K D i
  rw [unTo,List.length_append]
  split<;>simp<;>omega
theorem unTo_tree (T U:List Nat) (l:List Int):∀ i,i≤(kidsL l).length→unTo T (kidsL l) (digsL U (kidsL l)) i=((kidsL l).take i).filter (un T U)
 | 0,_=>rfl
 | i+1,h=>by
  rw [unTo,unTo_tree T U l i (by omega),filter_snoc (by omega),digsL_get (by omega)]
  unfold un
  by_cases q:row T ((kidsL l).getD i default).toNat=row U ((kidsL l).getD i default).toNat
  ·rw [if_pos q,decide_eq_false (fun z=>z q)];rfl
  ·rw [if_neg q,decide_eq_true q];rfl
theorem unTo_in (T:List Nat) (K:List Int) (D:List (List Nat)):∀ i,i≤K.length→(unTo T K D i).Sublist (K.take i)
 | 0,_=>by simp [unTo]
 | i+1,h=>by
  have ih:=unTo_in T K D i (by omega)
  rw [unTo,take_snocD (by omega)]
  split
  ·rw [List.append_nil];exact ih.trans (List.sublist_append_left _ _)
  ·exact ih.append (List.Sublist.refl _)
end Go.Aw.Clash
namespace Go.Proofs.YtkgploeegbmofaaGreat.Cl
open Go Go.RowKit Go.Aw Go.Aw.Sha Go.Aw.Tree Go.Aw.Clash Go.Proofs.YtkgploeegbmofaaGreat.Sh Go.Proofs.YtkgploeegbmofaaGreat.Tr
set_option linter.unusedVariables false
set_option linter.unusedSimpArgs false
set_option maxRecDepth 8000
attribute [local irreducible] sum
set_option maxHeartbeats 4000000
theorem unlikeD_w (T:List Nat) (l:List Int) (D:List (List Nat)) (ex ey:Bool) (hT:T.length=672) (hl:l.length≤100) (hD:D.length=(kidsL l).length) (h32:∀ d∈D,d.length=32):PCall Tryz.prog 101 [tv T,ints l ex,digs D ey] (.tup [.one (.p (.sl 1 ((unTo T (kidsL l) D (kidsL l).length).map fun n=>[PVal.i n]) false)),.one (.p (.i 0))]):=by
 refine pcall_of Tryz.func101 rfl (fun w0 F S0 M0=>?_)
 have hkl:=kidsL_le l
 have hne:decide (((kidsL l).length:Int)≠D.length)=false:=decide_eq_false (by rw [hD];simp)
 repeat' (first|refine jx17 ?_|refine jy0 ?_ ?_|exact spF|refine spQ fun hq hq'=>?_|refine spN fun hn=>?_|fail)
 refine aws_says (says_nil (t:=9) (o:=900) (ty:=3) (es:=1) rfl rfl (by decide)) ?_
 refine aws_loopS [9,10,11,21,22,23,24,25,26,27,28,29,30,31,32,33,34,35,36,37,38] [900] (fun (x:Nat × Nat × List Int)=>[(9,.o (.osl 900 x.2.1 1 0 x.2.2.length)),(21,.p (.i x.1))]) (fun x=>[(900,(x.2.1+1,some (.buf 3 1 (x.2.2.map fun n=>[PVal.i n]))))])
  (fun x=>x.1≤(kidsL l).length∧x.2.2=unTo T (kidsL l) D x.1) (fun x=>(kidsL l).length - x.1) (0,0,[]) ⟨Nat.zero_le _,rfl⟩ (by exact knA) (by exact knA) ?_
 rintro ⟨i,g,out⟩ β γ ⟨hi,hout⟩
 simp only at hi hout
 have hol:out.length≤400:=by
  rw [hout]
  have:=unTo_len T (kidsL l) D i
  omega
 dsimp only
 by_cases hil:i < (kidsL l).length
 ·have hlt:decide ((i:Int) < (kidsL l).length)=true:=decide_eq_true (by omega)
  have hm:=kidsL_get hil
  rw [← Int.toNat_natCast i] at hm
  have hrl:(rowOf 32 T ((kidsL l).getD ((i:Nat):Int).toNat default).toNat).length=32:=row_len hT (by omega)
  have hrm:(D.getD ((i:Nat):Int).toNat default).length=32:=by
   rw [Int.toNat_natCast,List.getD_eq_getElem?_getD,List.getElem?_eq_getElem (by omega)]
   exact h32 _ (List.getElem_mem _)
  by_cases hu:rowOf 32 T ((kidsL l).getD ((i:Nat):Int).toNat default).toNat=D.getD ((i:Nat):Int).toNat default
  ·have hd0:(!decide (rowOf 32 T ((kidsL l).getD ((i:Nat):Int).toNat default).toNat=D.getD ((i:Nat):Int).toNat default))=false:=by rw [decide_eq_true hu];rfl
   repeat' (first|refine jx19 ?_|refine jy0 ?_ ?_|exact spF|refine spQ fun hq hq'=>?_|refine spN fun hn=>?_|fail)
   refine ⟨(i+1,g,out),_,by dsimp only;omega,⟨by dsimp only;omega,?_⟩,.refl,by exact frA⟩
   dsimp only
   rw [Int.toNat_natCast] at hu
   rw [unTo,if_pos hu,List.append_nil];exact hout
  ·have hd0:(!decide (rowOf 32 T ((kidsL l).getD ((i:Nat):Int).toNat default).toNat=D.getD ((i:Nat):Int).toNat default))=true:=by rw [decide_eq_false hu];rfl
   repeat' (first|refine jx19 ?_|refine jy0 ?_ ?_|exact spF|refine spQ fun hq hq'=>?_|refine spN fun hn=>?_|fail)
   refine ⟨(i+1,g+1,out++[(kidsL l).getD ((i:Nat):Int).toNat default]),_,by dsimp only;omega,⟨by dsimp only;omega,?_⟩,.refl,by exact frA⟩
   dsimp only
   rw [Int.toNat_natCast] at hu
   rw [unTo,if_neg hu,hout,Int.toNat_natCast]
 ·have hlt:decide ((i:Int) < (kidsL l).length)=false:=decide_eq_false (by omega)
  obtain rfl:i=(kidsL l).length:=by omega
  repeat' (first|refine jx17 ?_|refine jy0 ?_ ?_|exact spF|refine spQ fun hq hq'=>?_|refine spN fun hn=>?_|fail)
  refine rt2 rfl rfl (.one (finC_map rfl rfl rfl rfl)) rfl finS_p ?_
  rw [hout]
end Go.Proofs.YtkgploeegbmofaaGreat.Cl
namespace Go.Proofs.YtkgploeegbmofaaGreat.Tr
open Go Go.RowKit Go.Aw Go.Aw.Sha Go.Aw.Tree Go.Proofs.YtkgploeegbmofaaGreat.Sh
set_option linter.unusedVariables false
set_option linter.unusedSimpArgs false
set_option maxRecDepth 8000
attribute [local irreducible] sum
set_option maxHeartbeats 4000000
abbrev txs (ls:List (List Nat)):AV:=.a (ls.map fun b=>.p (bytesP b false))
def few (ls:List (List Nat)):Prop:=ls.length=16∧∀ b∈ls,b.length≤400000000
theorem few_get {ls:List (List Nat)} (h:few ls) (i:Nat):(ls.getD i default).length≤400000000:=by
 rw [List.getD_eq_getElem?_getD]
 cases hx:ls[i]? with
 | none=>exact Nat.zero_le _
 | some x=>exact h.2 x (List.mem_of_getElem? hx)
theorem of_c (ls:List (List Nat)) (h:few ls):PCall Tryz.prog 68 [txs ls] (tv (ofF ls)):=by
 refine pcall_of Tryz.func68 rfl (fun w0 F S0 M0=>?_)
 have hl16:=h.1
 repeat' (first|refine jx17 ?_|refine jy0 ?_ ?_|exact spF|refine spQ fun hq hq'=>?_|refine spN fun hn=>?_|fail)
 refine aws_loopS [4,5,8,9,10,11,12,13,14,15,16,17] [3] (fun (i:Nat)=>[(8,.p (.i i))]) (fun i=>[(3,(1,some (.box 79 ((leavesTo ls i).map bc))))])
  (fun i=>i≤16) (fun i=>16 - i) 0 (Nat.zero_le _) (by exact knA) (by exact knA) ?_
 ·rintro i β γ hi
  have hfl:=few_get h (i:Int).toNat
  have hll:=leavesTo_len ls i hi
  have hdl:(leafD (ls.getD (i:Int).toNat default)).length=32:=leafD_len _
  by_cases hi16:i < 16
  ·have hd:decide ((i:Int) < 16)=true:=decide_eq_true (by omega)
   repeat' (first|refine jx17 ?_|refine jy0 ?_ ?_|exact spF|refine spQ fun hq hq'=>?_|refine spN fun hn=>?_|fail)
   refine ⟨i+1,_,by omega,by omega,.refl,?_⟩
   have e:leavesTo ls (i+1)=setRow 32 (leavesTo ls i) (5+(i:Int)).toNat (leafD (ls.getD (i:Int).toNat default)):=by
    rw [leavesTo,Int.toNat_natCast];congr 1
   rw [e]
   exact frA
  ·have hd:decide ((i:Int) < 16)=false:=decide_eq_false (by omega)
   have hof:ofF ls=innerTo (leavesTo ls i) 5:=by rw [show i=16 by omega];rfl
   clear hdl hfl
   rw [hof]
   generalize leavesTo ls i=L at hll ⊢
   repeat' (first|refine jx17 ?_|refine jy0 ?_ ?_|exact spF|refine spQ fun hq hq'=>?_|refine spN fun hn=>?_|fail)
   refine aws_loopS [6,18,19,20,21,22,23,24,25,26,27,28] [3] (fun (x:Nat × Int)=>[(6,.p (.i x.2))]) (fun x=>[(3,(1,some (.box 79 ((innerTo L x.1).map bc))))])
    (fun x=>x.1≤5∧x.2=4 - (x.1:Int)) (fun x=>5 - x.1) (0,4) ⟨Nat.zero_le _,rfl⟩ (by exact knA) (by exact knA) ?_
   rintro ⟨k,t⟩ β γ ⟨hk,ht⟩
   simp only at hk ht
   have hil:=innerTo_len hll k
   have hbl:=belowF_len (T:=innerTo L k) (p:=t) hil
   have hsl:(sum (belowF (innerTo L k) t)).length=32:=sumLen _
   dsimp only
   by_cases hk5:k < 5
   ·have hd:decide (0≤t)=true:=decide_eq_true (by omega)
    repeat' (first|refine jx17 ?_|refine jy0 ?_ ?_|exact spF|refine spQ fun hq hq'=>?_|refine spN fun hn=>?_|fail)
    refine ⟨(k+1,t - 1),_,by dsimp only;omega,⟨by dsimp only;omega,by dsimp only;omega⟩,.refl,?_⟩
    have e:innerTo L (k+1)=setRow 32 (innerTo L k) t.toNat (sum (belowF (innerTo L k) t)):=by
     obtain rfl:t=((4 - k:Nat):Int):=by omega
     rw [innerTo,fixF,Int.toNat_natCast]
    dsimp only
    rw [e]
    exact frA
   ·have hd:decide (0≤t)=false:=decide_eq_false (by omega)
    have hk5':innerTo L 5=innerTo L k:=by rw [show k=5 by omega]
    rw [hk5']
    repeat' (first|refine jx17 ?_|refine jy0 ?_ ?_|exact spF|refine spQ fun hq hq'=>?_|refine spN fun hn=>?_|fail)
    exact rc1 rfl rfl rfl rfl rfl (by simpa using hil) finL_p rfl
end Go.Proofs.YtkgploeegbmofaaGreat.Tr
namespace Go.Proofs.YtkgploeegbmofaaGreat.Wi
open Go Go.RowKit Go.Aw Go.Aw.Sha Go.Aw.Cart Go.Aw.Tree Go.Proofs.YtkgploeegbmofaaGreat.Ca Go.Proofs.YtkgploeegbmofaaGreat.Rg Go.Proofs.YtkgploeegbmofaaGreat.Sh
set_option linter.unusedVariables false
set_option linter.unusedSimpArgs false
set_option maxRecDepth 8000
set_option maxHeartbeats 4000000
attribute [local irreducible] sum
theorem nB_le (x:Nat):(numB x).length≤9:=by
 have:=beF_le 8 x
 show (beF 8 x).length+1≤9
 omega
theorem vB_le (v:List Int):(vecB v).length≤9 * v.length:=by
 unfold vecB
 induction v with
 | nil=>exact Nat.le_refl _
 | cons a l ih=>
  rw [List.flatMap_cons,List.length_append,List.length_cons]
  have:(numI a).length≤9:=nB_le a.toNat
  omega
theorem eB_le (l:List Ent):(l.flatMap entB).length≤36 * l.length:=by
 induction l with
 | nil=>exact Nat.le_refl _
 | cons a l ih=>
  rw [List.flatMap_cons,List.length_append,List.length_cons]
  have h1:(numI a.1).length≤9:=nB_le _
  have h2:(numI a.2.1).length≤9:=nB_le _
  have h3:(numI a.2.2.1).length≤9:=nB_le _
  have h4:(intB a.2.2.2).length≤9:=nB_le _
  have:(entB a).length≤36:=by unfold entB;simp only [List.length_append];omega
  omega
theorem kB_le {k:Kd} (h1:k.1.length≤20) (h2:k.2.1.length=8) (h3:k.2.2.length≤400):(kdB k).length≤20000:=by
 have a:=nB_le k.1.length
 have b:=vB_le k.2.1
 have c:=nB_le k.2.2.length
 have d:=eB_le k.2.2
 unfold kdB textB cartB
 simp only [List.length_append]
 omega
theorem kBs_le:∀ {l:List Kd},(∀ k∈l,(kdB k).length≤20000)→(l.flatMap kdB).length≤20000 * l.length
 | [],_=>Nat.le_refl _
 | k::l,h=>by
  rw [List.flatMap_cons,List.length_append,List.length_cons]
  have h1:=h k List.mem_cons_self
  have h2:=kBs_le fun e he=>h e (List.mem_cons_of_mem _ he)
  omega
theorem txs_few0 {l:List Kd} (h:LIn l) (part:Int):Tr.few (txsF l part):=by
 refine ⟨txsF_len l part,fun b hb=>?_⟩
 unfold txsF at hb
 obtain ⟨B,hB,rfl⟩:=List.mem_map.1 hb
 obtain ⟨j,hj,rfl⟩:=List.getElem_of_mem hB
 have e:(bktsF l part)[j]=(bktsF l part).getD j []:=by rw [List.getD_eq_getElem?_getD,List.getElem?_eq_getElem hj];rfl
 have ho:=bkts_ok l part j
 have h1:=kBs_le (l:=(bktsF l part).getD j []) fun k hk=>kB_le (ho.key k hk) (h.kd k (bk_sub k hk)).vec.1 (ok_iff.1 (ho.cart k hk)).few
 have h2:=ho.few
 rw [e]
 have h3:=nB_le ((bktsF l part).getD j []).length
 unfold listB
 rw [List.length_append]
 omega
theorem ofF_672' (ls:List (List Nat)):(ofF ls).length=672:=ofF_len ls
open Tr in
theorem tpart_w (l:List Kd) (ex:Bool) (part:Int) (h:LIn l):PCall Tryz.prog 30 [.p (.sl 10 (l.map kR) ex),.p (.i part)] (Tr.tv (ofF (txsF l part))):=by
 refine pcall_of Tryz.func30 rfl (fun w0 F S0 M0=>?_)
 have c1:=texts_w l ex part h
 have hf:=txs_few0 h part
 generalize txsF l part=X at *
 haveI i1:PC Tryz.prog 69 [.p (.sl 10 (l.map kR) ex),.p (.i part)] True (.a (X.map fun b=>.p (.sl 1 (b.map bR) false))):=⟨fun _=>c1⟩
 haveI i2:PC Tryz.prog 68 [.a (X.map fun b=>.p (.sl 1 (b.map bR) false))] True (Tr.tv (ofF X)):=⟨fun _=>Tr.of_c X hf⟩
 have hT:=ofF_672' X
 generalize ofF X=T at *
 open B1 in
 as_aux_lemma=>
  repeat' (first|refine jx5 ?_|refine jy0 ?_ ?_|exact spF|refine spQ fun hq hq'=>?_|refine spN fun hn=>?_|fail)
  exact rc1 rfl rfl rfl rfl rfl (by rw [List.length_map];exact hT) finL_map rfl
end Go.Proofs.YtkgploeegbmofaaGreat.Wi
