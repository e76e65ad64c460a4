/- sessions, the law SessionWalks: all of it -/
import Derived.Test.YtkgploeegbmofaaGreatSED03
import Derived.Test.YtkgploeegbmofaaGreatSED06
import Derived.Test.YtkgploeegbmofaaGreatSED07
import Derived.Test.YtkgploeegbmofaaGreatSED08
import Derived.Test.YtkgploeegbmofaaGreatSED04
import Derived.Test.YtkgploeegbmofaaGreatSEA30
import Derived.Test.YtkgploeegbmofaaGreatSEA42
import Derived.Test.YtkgploeegbmofaaGreatSEA36
namespace Go.Proofs.YtkgploeegbmofaaGreat.Wi
open Go Go.RowKit Go.Aw Go.Aw.Sha Go.Aw.Cart Go.Aw.Tree Go.Aw.Clash Go.Proofs.YtkgploeegbmofaaGreat.Ca Go.Proofs.YtkgploeegbmofaaGreat.Rg
set_option linter.unusedVariables false
set_option linter.unusedSimpArgs false
set_option maxRecDepth 8000
set_option maxHeartbeats 4000000
attribute [local irreducible] sum
theorem linX {l:List Kd} (hg:greatL l=false) (hin:∀ k∈l,KdI k):LIn l∧l.length≤30∧∀ k∈l,k.2.2.length≤1000000:=by
 obtain ⟨h1,h2⟩:=greatL_no hg
 exact ⟨⟨by omega,hin,fun k hk=>by have:=(h2 k hk).2;omega⟩,by omega,fun k hk=>by have:=(h2 k hk).2;omega⟩
theorem sessionWalks_g (s:Ses) (l m:List Kd) (ex ey:Bool) (hll:l.length≤9223372036854775807) (hml:m.length≤9223372036854775807) (hk:∀ k∈l,KdI k) (hmk:∀ k∈m,KdI k) (ha:PCall Tryz.prog 21 [] (.p (.b true))):PCall Tryz.prog 6 [sV s,.p (.sl 10 (l.map kR) ex),.p (.sl 10 (m.map kR) ey)] (.p (.b true)):=by
 have c1:=pgreat_w l ex hll
 cases hg:greatL l with
 | true=>rw [hg] at c1;exact walks_g1 s l m ex ey ha c1
 | false=>
 rw [hg] at c1
 have c2:=pgreat_w m ey hml
 cases hgm:greatL m with
 | true=>rw [hgm] at c2;exact walks_g2 s l m ex ey ha c1 c2
 | false=>
 rw [hgm] at c2
 obtain ⟨hl,h30,hf⟩:=linX hg hk
 obtain ⟨hm,hm30,_⟩:=linX hgm hmk
 have c3:=pright_w l ex (by omega) hl.kd hl.few
 have c4:=pright_w m ey (by omega) hm.kd hm.few
 cases hr:keysF l with
 | false=>rw [hr] at c3;exact walks_r1 s l m ex ey ha c1 c2 c3
 | true=>
 rw [hr] at c3
 cases hrm:keysF m with
 | false=>rw [hrm] at c4;exact walks_r2 s l m ex ey ha c1 c2 c3 c4
 | true=>
 rw [hrm] at c4
 have c5:=begin_w s.id s.self s.peer s.part s.wb s.wc s.wm s.wt 5
 unfold beginF at c5
 by_cases hb:Bo.win 5 0 1099511627776=true∧rightS (beginS s.id s.self s.peer s.part s.wb s.wc s.wm s.wt)=true
 case neg=>
  rw [if_neg hb] at c5
  exact walks_b s l m ex ey ha zeroS c1 c2 c3 c4 c5
 rw [if_pos hb] at c5
 dsimp only at c5
 have hX:rightS (rndS (beginS s.id s.self s.peer s.part s.wb s.wc s.wm s.wt) 1 [] 5)=true:=rnd_right hb.2 (by decide) (by rfl) (by decide)
 have hw0:WP (ofF (txsF l s.part)) (ofF (txsF m s.part)) s 0 (rndS (beginS s.id s.self s.peer s.part s.wb s.wc s.wm s.wt) 1 [] 5) []:=⟨hX,rfl,.inl ⟨rfl,rfl,rfl⟩⟩
 have hXp:(rndS (beginS s.id s.self s.peer s.part s.wb s.wc s.wm s.wt) 1 [] 5).part=s.part:=rfl
 generalize rndS (beginS s.id s.self s.peer s.part s.wb s.wc s.wm s.wt) 1 [] 5=Z at *
 have lT:=ofF_672' (txsF l s.part)
 have lU:=ofF_672' (txsF m s.part)
 refine RW9.2 s l ex m ey (ofF (txsF l s.part)) (ofF (txsF m s.part)) (leavesL (walkF (ofF (txsF l s.part)) (ofF (txsF m s.part))).1) Z (walkF (ofF (txsF l s.part)) (ofF (txsF m s.part))).2.1 c1 c2 c3 c4 c5 (by rw [hXp];exact tpart_w l ex s.part hl) (by rw [hXp];exact tpart_w m ey s.part hm) (Cl.diff_w _ _ ⟨lT,lU⟩) hw0 lT lU ?_
 intro w0 F S0 M0 ν k c g g14 m14 g18 m18 β γ hP
 by_cases r0:c.round=0
 ·exact walks_end w0 F S0 M0 s l ex m ey _ _ _ Z ν k c g g14 m14 g18 m18 β γ ha (Cl.same_w _ _ ⟨lT,lU⟩) hP r0 rfl (Nat.le_trans (leavesL_le _) walkF_len) lT lU
 obtain ⟨w1,w2,t,w3,w4,w5⟩:=wp_step hr h30 hP r0
 have hkk:=(wp_k hP).2 r0
 obtain ⟨hcr,hcp,_⟩:=id hP
 have hc0:=(right_parts hcr).2.2.2.2.2.1
 have hpl:=pls_few hcr
 have s1:=say_w c l ex (by omega) hl hf (fun _=>by omega)
 have hsay:sayF (ofF (txsF l c.part)) c l=(saidF (ofF (txsF l s.part)) c l,0):=by
  rw [hcp]
  unfold sayF
  rw [if_pos ⟨hcr,hr⟩,if_neg r0]
 rw [hsay] at s1
 have hMI:=said_in (ls:=txsF l s.part) hcr hr h30 hk hf
 have hYI:=ans_in (ls:=txsF m s.part) hMI hpl
 have hYp:=ans_pls (U:=ofF (txsF m s.part)) (m:=saidF (ofF (txsF l s.part)) c l) hpl
 have a1:=answer_w m ey (saidF (ofF (txsF l s.part)) c l) hm hMI.d32 (show c.pls.length≤100 by omega) (show c.round=1∨c.round=2∨c.round=3 by omega)
 rw [show (saidF (ofF (txsF l s.part)) c l).part=s.part from hcp] at a1
 have b1:=hearAll_w c l ex (ansF (ofF (txsF m s.part)) (saidF (ofF (txsF l s.part)) c l)) 6 (by omega) hl hYI (by omega) (fun z1 z2=>kids_dgs z1 z2)
 rw [hcp,w3] at b1
 have p1:=mright_w _ hMI
 rw [w1] at p1
 have p2:=sright_w t (by have:=pls_few w4;omega)
 rw [w4] at p2
 by_cases r3:c.round=3
 ·rw [if_pos r3] at w5
  have hv:lvlF c.pls 2=true:=by
   have h7:=(right_parts hcr).2.2.2.2.2.2.1
   unfold plsB at h7
   rw [if_neg (by omega),r3] at h7
   exact h7
  have hlr:=leaves_rise hv
  have q1:=Cl.leaves_w c.pls false (by omega)
  exact walks_give w0 F S0 M0 s l ex m ey _ _ _ Z ν k c g g14 m14 g18 m18 β γ _ _ t [] s1 p1 a1 b1 p2 rfl hMI.d32 hYI.d32 (by omega) hkk (leavesL c.pls) r3 w5 hcp hlr.2.1 h30 q1 (fun n=>by rw [hcp];exact of_w l ex s.part n hl) (fun i h=>carts_len hr hlr.1 h) (fun n=>of_few) (by unfold saidF;dsimp only;rw [if_pos r3,hcp];rfl) hMI.kl
 ·rw [if_neg r3] at w5
  exact walks_mid w0 F S0 M0 s l ex m ey _ _ _ Z ν k c g g14 m14 g18 m18 β γ _ _ t [] s1 p1 a1 b1 p2 rfl hMI.d32 hYI.d32 (by omega) hkk r3 w5
end Go.Proofs.YtkgploeegbmofaaGreat.Wi
namespace Go.Proofs.YtkgploeegbmofaaGreat.Wi
open Go Go.RowKit Go.Aw Go.Aw.Cart Go.Aw.Tree Go.Proofs.YtkgploeegbmofaaGreat.Ca Go.Proofs.YtkgploeegbmofaaGreat.Rg
set_option linter.unusedVariables false
set_option maxRecDepth 8000
theorem sessionWalks_a (s:Ses) (l m:List Kd) (h:SGo s) (k:l.length≤maxLen∧∀ k∈l,KdI k) (km:m.length≤maxLen∧∀ k∈m,KdI k):PCall Tryz.prog 6 [argAV true (sRow s),argAV false [.sl 10 (l.map fun k=>kR k) false],argAV false [.sl 10 (m.map fun k=>kR k) false]] (.p (.b true)):=
 sessionWalks_g s l m false false k.1 km.1 k.2 km.2 alive27_w
end Go.Proofs.YtkgploeegbmofaaGreat.Wi
