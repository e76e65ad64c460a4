/- messages, the law ProtoTells: its contracts put together -/
import Derived.Test.YtcbhmngagibhmaaGreatSp
import Derived.Test.YtcbhmngagibhmaaGreatPrA
import Derived.Test.YtcbhmngagibhmaaGreatPRA42
import Derived.Test.YtcbhmngagibhmaaGreatPRA43
import Derived.Test.YtcbhmngagibhmaaGreatPRA25
namespace Go.Proofs.YtcbhmngagibhmaaGreat.Wi
open Go Go.RowKit Go.Aw Go.Aw.Cart Go.Aw.Tree Go.Proofs.YtcbhmngagibhmaaGreat.Ca Go.Proofs.YtcbhmngagibhmaaGreat.Rg
set_option linter.unusedVariables false
set_option linter.unusedSimpArgs false
set_option maxRecDepth 8000
set_option maxHeartbeats 4000000
theorem readM_01 (b:List Nat):(readM b).2=0∨(readM b).2=3:=by
 rcases readM_cases b with ⟨-,h⟩ | ⟨- , - , -,h⟩
 ·exact .inr h
 ·rw [h];exact .inl rfl
theorem protoTells_w (m n:Msg) (b:List Nat) (hm:MGo m) (hn:MGo n) (hb:okB b) (hbl:b.length≤9223372036854775807):PCall Tryz.prog 3 [mV m,mV n,.p (.sl 1 (b.map bR) false)] (.p (.b true)):=by
 by_cases hl:b.length≤3000
 ·have hy:=readM_in hb (show b.length≤1000000000 by omega)
  refine protoTells_g m n (readM b).1 b (if rightM m=true then msgB m else []) (if rightM m=true then 0 else 3) (readM b).2 (rightM m) (sameM m n) (decide (1≤m.kind)&&decide (m.kind≤3)) hm.d32 hn.d32 hy.d32 _ _ hbl alive26_w (great26_w m hm) (great26_w n hn) (fun h1 h2 h3=>?_)
  have im:=(min_of hm h1).1
  have jn:=(min_of hn h2).1
  have ss:=refSame26_w (readM b).1 (readM b).1 hy hy
  rw [sameM_refl] at ss
  refine ⟨?_,?_,readM_01 b,fun q=>by rw [q];exact ⟨rfl,rfl⟩,fun q=>by rw [q];rfl,as26_w m im,as26_w n jn,as26_w _ hy,?_,mread_w b hb (by omega),refRead26_w b hb (by omega),mright_w m im,refRight26_w m im,psame_w m n im jn,refSame26_w m n im jn,ss,asks_w m,fun q=>by rw [if_pos q];exact refWrite26_w m im q⟩
  ·split
   ·exact msgB_ok im
   ·exact fun c hc=>by cases hc
  ·rw [show decide (0 < m.kind)=decide (1≤m.kind) from decide_eq_decide.2 (by omega),show decide (m.kind < 4)=decide (m.kind≤3) from decide_eq_decide.2 (by omega)]
  ·cases hr:rightM m with
   | true=>rw [if_pos rfl,if_pos rfl];exact mwrite_ok m im hr
   | false=>rw [if_neg (by decide),if_neg (by decide)];exact mwrite_no m im hr
 ·refine protoTells_g m n zeroM b [] 0 0 true true true hm.d32 hn.d32 rfl _ _ hbl alive26_w (great26_w m hm) (great26_w n hn) (fun h1 h2 h3=>absurd h3 hl)
end Go.Proofs.YtcbhmngagibhmaaGreat.Wi
