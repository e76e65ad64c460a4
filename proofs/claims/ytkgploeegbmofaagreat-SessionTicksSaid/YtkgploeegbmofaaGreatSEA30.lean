/- sessions: begun -/
import Derived.Test.YtkgploeegbmofaaGreatSEA28
namespace Go.Proofs.YtkgploeegbmofaaGreat.Wi
open Go Go.RowKit Go.Aw Go.Aw.Cart Go.Aw.Tree Go.Proofs.YtkgploeegbmofaaGreat.Ca Go.Proofs.YtkgploeegbmofaaGreat.Rg
set_option linter.unusedVariables false
set_option linter.unusedSimpArgs false
set_option maxRecDepth 8000
set_option maxHeartbeats 4000000
open S1
def beginS (id self peer part wb wc wm wt:Int):Ses:=⟨id,self,peer,part,1,[],wb,wc,wm,wt,0⟩
def beginF (id self peer part wb wc wm wt now:Int):Ses × Int:=
 if Bo.win now 0 1099511627776=true∧rightS (beginS id self peer part wb wc wm wt)=true then (rndS (beginS id self peer part wb wc wm wt) 1 [] now,0) else (zeroS,1)
theorem begin_w (id self peer part wb wc wm wt now:Int):PCall Tryz.prog 29 [.p (.i id),.p (.i self),.p (.i peer),.p (.i part),.a [.p (.i wb),.p (.i wc),.p (.i wm),.p (.i wt)],.p (.i now)] (.tup [.agg (sL (beginF id self peer part wb wc wm wt now).1),.one (.p (.i (beginF id self peer part wb wc wm wt now).2))]):=by
 refine pcall_of Tryz.func29 rfl (fun w0 F S0 M0=>?_)
 have c1:PCall Tryz.prog 20 [.a [.p (.i id),.p (.i self),.p (.i peer),.p (.i part),.p (.i 1),.p (.v (.slice none 0 0)),.p (.i wb),.p (.i wc),.p (.i wm),.p (.i wt),.p (.i 0)]] (.p (.b (rightS (beginS id self peer part wb wc wm wt)))):=(sright_w (beginS id self peer part wb wc wm wt) (Nat.zero_le _)).ent (.cons (ent_s (s:=beginS id self peer part wb wc wm wt) (c:=.v (.slice none 0 0)) PE.nil) .nil)
 have c3:=isNow_w now
 unfold beginF
 by_cases h3:Bo.win now 0 1099511627776=true
 case neg=>
  rw [Bool.not_eq_true] at h3
  rw [h3] at c3
  haveI i3:PC Tryz.prog 55 [.p (.i now)] True (.p (.b false)):=⟨fun _=>c3⟩
  rw [if_neg (by rw [h3];exact fun q=>by cases q.1)]
  clear c3 c1
  as_aux_lemma=>
   repeat' (first|refine jx5 ?_|refine jy0 ?_ ?_|exact spF|refine spQ fun hq hq'=>?_|refine spN fun hn=>?_|fail)
   exact rc2 rfl rfl rfl rfl rfl rfl (finSe (s:=zeroS) .nil) rfl finS_p rfl
 rw [h3] at c3
 haveI i3:PC Tryz.prog 55 [.p (.i now)] True (.p (.b true)):=⟨fun _=>c3⟩
 clear c3
 by_cases h1:rightS (beginS id self peer part wb wc wm wt)=true
 case neg=>
  rw [Bool.not_eq_true] at h1
  rw [h1] at c1
  haveI i1:PC Tryz.prog 20 [.a [.p (.i id),.p (.i self),.p (.i peer),.p (.i part),.p (.i 1),.p (.v (.slice none 0 0)),.p (.i wb),.p (.i wc),.p (.i wm),.p (.i wt),.p (.i 0)]] True (.p (.b false)):=⟨fun _=>c1⟩
  rw [if_neg (by rw [h1];exact fun q=>by cases q.2)]
  clear c1
  as_aux_lemma=>
   repeat' (first|refine jx5 ?_|refine jy0 ?_ ?_|exact spF|refine spQ fun hq hq'=>?_|refine spN fun hn=>?_|fail)
   exact rc2 rfl rfl rfl rfl rfl rfl (finSe (s:=zeroS) .nil) rfl finS_p rfl
 rw [if_pos ⟨h3,h1⟩]
 have hw:=(right_parts h1).2.2.2.2.2.2.2.1
 have hn:0≤now∧now≤1099511627776:=of_decide_eq_true h3
 rw [h1] at c1
 haveI i1:PC Tryz.prog 20 [.a [.p (.i id),.p (.i self),.p (.i peer),.p (.i part),.p (.i 1),.p (.v (.slice none 0 0)),.p (.i wb),.p (.i wc),.p (.i wm),.p (.i wt),.p (.i 0)]] True (.p (.b true)):=⟨fun _=>c1⟩
 have c2:=(round_w (beginS id self peer part wb wc wm wt) (.v (.slice none 0 0)) 1 [] now hw hn (fun _ _=>.nil)).ent (.cons (ent_s (s:=beginS id self peer part wb wc wm wt) (c:=.v (.slice none 0 0)) PE.nil) (.cons .refl (.cons .refl (.cons .refl .nil))))
 haveI i2:PC Tryz.prog 67 [.a [.p (.i id),.p (.i self),.p (.i peer),.p (.i part),.p (.i 1),.p (.v (.slice none 0 0)),.p (.i wb),.p (.i wc),.p (.i wm),.p (.i wt),.p (.i 0)],.p (.i 1),.p (.v (.slice none 0 0)),.p (.i now)] True (sV (rndS (beginS id self peer part wb wc wm wt) 1 [] now)):=⟨fun _=>c2⟩
 clear c1 c2
 as_aux_lemma=>
  repeat' (first|refine jx5 ?_|refine jy0 ?_ ?_|exact spF|refine spQ fun hq hq'=>?_|refine spN fun hn=>?_|fail)
  exact rc2 rfl rfl rfl rfl rfl rfl (finSe (s:=rndS (beginS id self peer part wb wc wm wt) 1 [] now) .p) rfl finS_p rfl
end Go.Proofs.YtkgploeegbmofaaGreat.Wi
