/- Walks, by program (lift5.py): the code does what the lifted functions say. -/
import Derived.Test.YtckmalogclklmaaGreatDoorTHead
import Derived.Test.YtckmalogclklmaaGreatDoorTWb2
import Derived.Test.YtckmalogclklmaaGreatDoorTWb5
import Derived.Test.YtckmalogclklmaaGreatDoorTWb9
import Derived.Test.YtckmalogclklmaaGreatDoorTWb11
import Derived.Test.YtckmalogclklmaaGreatDoorTDg
import Derived.Test.YtckmalogclklmaaGreatDoorTSd
import Derived.Test.YtckmalogclklmaaGreatDoorTCh
set_option linter.all false
namespace Go.Vx
open Go.Proofs
set_option maxRecDepth 100000
set_option maxHeartbeats 8000000
set_option linter.unusedVariables false
set_option linter.unusedSimpArgs false
attribute [local irreducible] chk ay av aM lI

theorem YI h' w kept r (h:LG h' w kept=some r):Pf 50 [vi h',vi w,vi kept] (dF aj r):=by
  unfold LG at h
  refine bC Tryz.func50 fun ctr hc=>?_
  refine bB ?_
  refine Wo 12 0 (yO h' w) fun v h1=>?_
  obtain ⟨⟨q,q1,q2,q3,⟨q4,q5,q6⟩,⟨⟨q7,q8,q9,yw⟩,BD,BF,BG⟩⟩,⟨_,_,_,_⟩⟩:=v
  refine Wo 18 0 (NN h' w kept) fun v1 h2=>?_
  refine Wo 21 0 (NN h' w 0) fun v2 h3=>?_
  refine Wo 22 0 (ZN) fun v3 h4=>?_
  refine Wo 27 0 (Pq ⟨v1,v2,false,v3,⟨⟨q,q1,q2,q3,⟨q4,q5,q6⟩,⟨⟨q7,q8,q9,yw⟩,BD,BF,BG⟩⟩,⟨q,q1,q2,q3,⟨q4,q5,q6⟩,⟨⟨q7,q8,q9,yw⟩,BD,BF,BG⟩⟩⟩,([]:List Int),ByteArray.empty,0⟩) fun v4 h5=>?_
  refine Wk [] 0 [] Wz

theorem abd h' w kept r (h:TS h' w kept=some r):Pf 24 [vi h',vi w,vi kept] (gP aj r):=by
  unfold TS at h
  refine bC Tryz.func24 fun ctr hc=>?_
  refine bB ?_
  refine Wo 10 0 (YI h' w kept) fun v h1=>?_
  refine Wk [] 0 [] Wz

end Go.Vx
