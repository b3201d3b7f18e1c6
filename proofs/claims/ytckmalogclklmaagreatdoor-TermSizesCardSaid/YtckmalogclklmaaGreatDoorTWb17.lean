/- Walks, by program (lift5.py): the code does what the lifted functions say. -/
import Derived.Test.YtckmalogclklmaaGreatDoorTHead
import Derived.Test.YtckmalogclklmaaGreatDoorTWb2
import Derived.Test.YtckmalogclklmaaGreatDoorTWb3
import Derived.Test.YtckmalogclklmaaGreatDoorTWb4
import Derived.Test.YtckmalogclklmaaGreatDoorTWb6
import Derived.Test.YtckmalogclklmaaGreatDoorTWb7
import Derived.Test.YtckmalogclklmaaGreatDoorTWb10
import Derived.Test.YtckmalogclklmaaGreatDoorTWb11
import Derived.Test.YtckmalogclklmaaGreatDoorTWb12
import Derived.Test.YtckmalogclklmaaGreatDoorTWb13
import Derived.Test.YtckmalogclklmaaGreatDoorTWb16
import Derived.Test.YtckmalogclklmaaGreatDoorTDg
import Derived.Test.YtckmalogclklmaaGreatDoorTSd
import Derived.Test.YtckmalogclklmaaGreatDoorTCh
set_option linter.all false
namespace Go.Vx
open Go.Proofs
set_option maxRecDepth 100000
set_option maxHeartbeats 8000000
set_option linter.unusedVariables false
set_option linter.unusedSimpArgs false
attribute [local irreducible] chk ay av aM lI

theorem Ut s d' r' r (h:Eo s d' r'=some r):Pf 139 [dF aj s,dZ aj d',vi r'] (dF aj r):=by
  unfold Eo at h
  refine bC Tryz.func139 fun ctr hc=>?_
  refine bB ?_
  refine Wo 10 0 (jX s) fun v h1=>?_
  refine Wo 13 0 (ZQ d' r') fun v1 h2=>?_
  refine Wo 27 0 (sI s.fM false 4) fun v2 h3=>?_
  refine Wo 30 0 (sI s.fM true 7) fun v3 h4=>?_
  refine Wo 31 0 (VG v r' v1 v2 v3) fun v4 h5=>?_
  refine Wo 32 0 (KI s v4) fun v5 h6=>?_
  refine Wk [] 0 [] Wz

theorem ZR s d' a r (h:OQ s d' a=some r):Pf 95 [dF aj s,dZ aj d',zV aj a] (dF aj r):=by
  obtain ⟨_,q1,_,_,_,_⟩:=a
  unfold OQ at h
  try dsimp only at h
  refine bC Tryz.func95 fun ctr hc=>?_
  revert h;refine bE 1 [] 0 [] (Wq ?_);intro h;intros
  refine bq h (ctr+1) [(11,4)] [] (fun _ u=>Fa [] []) (fun x uc ug ut ht hu hp h=>?_) (fun f h=>?_)
  · refine bq h uc [(7,4),(4,90)] [] (fun _ u1=>Fa [] []) (fun x cu fJ fE ht hu hp h=>?_) (fun f h=>?_)
    · cases h
    · revert h;refine bE 1 [] 0 [] (Wq ?_);intro h;intros
      refine Tr.block ?_
      revert h;refine bE 1 [] 0 [] (Wq ?_);intro h;intros
      refine yP h rfl (fun _ h=>?_) (fun _ h=>?_)
      · refine bB ?_
        refine Wo 20 0 (jX s) fun v h9=>?_
        refine Wo 27 0 (Xt v.fC.aN q1) fun v1 h10=>?_
        obtain ⟨⟨⟨q6,q7,q8,q9⟩,yw,BD,BF⟩,BG⟩:=v1
        refine Wo 35 0 (KI s ⟨v.fG,⟨v.fC.fX,v.fC.fY,v.fC.bX,v.fC.dH,v.fC.bI,⟨⟨q6,q7,q8,q9⟩,yw,BD,BF⟩⟩,v.fR,v.fT,v.fK,v.dJ,v.bL⟩) fun v2 h11=>?_
        refine Wo 38 0 (Ut v2 d' BG) fun v3 h12=>?_
        refine Wk [] 0 [] Wz
      · revert h;refine bE 1 [] 0 [] (Wq ?_);intro h;intros
        refine yP h rfl (fun _ h=>?_) (fun _ h=>?_)
        · cases h
        · revert h;refine bE 1 [] 0 [] (Wq ?_);intro h;intros
          refine yP h rfl (fun _ h=>?_) (fun _ h=>?_)
          · cases h
          · revert h;refine bE 1 [] 0 [] (Wq ?_);intro h;intros
            refine yP h rfl (fun _ h=>?_) (fun _ h=>?_)
            · refine bq h (uc+5) [(78,11)] [] (fun _ u2=>Fa [] []) (fun x jB ny mF ht hu hp h=>?_) (fun f h=>?_)
              · cases h
              · revert h;refine bE 1 [] 0 [] (Wq ?_);intro h;intros
                refine yP h rfl (fun _ h=>?_) (fun _ h=>?_)
                · refine bB ?_
                  refine Wo 81 0 (Og) fun v4 h16=>?_
                  refine Wi 84 0 h (sK v4 sB) (Xu _ _ _) fun v5 h17=>?_
                  refine Wiv 88 h (sK v4 (sK v5 sB)) (acW _ _ _ _) fun v6 h18=>?_
                  refine Wk [] 0 [] Wz
                · refine Wx [] 0 [] Wz
            · cases h
  · refine bB ?_
    refine Wo 12 0 (wX s) fun v7 h19=>?_
    revert h;refine jI 1 [] 0 [] (Wq ?_);intro h;intros
    refine yP h rfl (fun _ h=>?_) (fun _ h=>?_)
    · cases h
    · refine Wx [] 0 [] Wz

theorem ZT t' d' b r (h:OT t' d' b=some r):Pf 52 [gP aj t',dZ aj d',Lu aj b] (gP aj r):=by
  unfold OT at h
  refine bC Tryz.func52 fun ctr hc=>?_
  refine bB ?_
  refine Wo 14 0 (nJ t') fun v h1=>?_
  refine Wo 21 0 (aa5 t'.fU b) fun v1 h2=>?_
  obtain ⟨⟨_⟩,q1⟩:=v1
  refine Wo 28 0 (YH t'.fP q1) fun v2 h3=>?_
  obtain ⟨⟨_,_,_,⟨_,_⟩,_,_⟩,_⟩:=v2
  revert h;refine jI 5 [999] 0 [] (Wq ?_);intro h;intros
  refine bq h (ctr+5) [(12,1),(22,13)] [(3,1)] (fun NJ u=>Fa [] [(3,.box (ctr+0) (cellsOf 92 fun j=>(qO aj NJ j)))]) (fun NJ uc ug ut ht hu hp h=>?_) (fun f h=>?_)
  · refine bB ?_
    refine Wo 49 0 (KJ NJ) fun v3 h10=>?_
    refine Wk [999] 0 [] Wz
  · revert h;refine bE 1 [999] 0 [] (Wq ?_);intro h;intros
    refine Tr.block ?_
    refine dO h (ctr+6) [(12,1),(24,11)] [(3,1),(8,1)] (fun (v4,DN) u1=>Fa [(37,vi v4)] [(3,.box (ctr+0) (cellsOf 92 fun j=>(qO aj DN j)))]) bW (fun x cu fJ fE f ht hu hp h=>?_)
    obtain ⟨_,_⟩:=x
    try dsimp only at hp h
    refine bB ?_
    refine Wi 45 0 h (sT (sC sB)) (ZR _ _ _) fun v5 h18=>?_
    refine Wk [999] 0 [] Wz

theorem acX t' d' a r (h:Xd t' d' a=some r):Pf 25 [gP aj t',dZ aj d',U5 aj a] (.gX 2 (fun j=>match j with | 0=>(gP aj r.1) | 1=>(Lu aj r.2) | _=>.junk)):=by
  unfold Xd at h
  refine bC Tryz.func25 fun ctr hc=>?_
  refine bB ?_
  refine Wo 24 0 (nJ t') fun v h1=>?_
  refine Wo 29 0 (jX t'.fS) fun v1 h2=>?_
  revert h;refine jI 4 [999] 0 [] (Wq ?_);intro h;intros
  refine bB ?_
  refine Wo 32 0 (ZU a) fun v2 h3=>?_
  refine Wo 40 0 (ZT t' d' v2.fb) fun v3 h4=>?_
  refine Wo 145 0 (VH v3.fS) fun v4 h5=>?_
  obtain ⟨⟨⟨⟨_⟩,⟨_,_,_,_,⟨_,_,_⟩,⟨⟨_,_,_,_⟩,_,_,_⟩⟩,⟨_,_,_,_⟩,⟨_,_⟩,⟨_,_⟩,_,_⟩,⟨⟨_⟩,⟨_,_,_,_,⟨_,_,_⟩,⟨⟨_,_,_,_⟩,_,_,_⟩⟩,⟨_,_,_,_⟩,⟨_,_⟩,⟨_,_⟩,_,_⟩,_,⟨_⟩,⟨⟨_,_,_,_,⟨_,_,_⟩,⟨⟨_,_,_,_⟩,_,_,_⟩⟩,⟨_,_,_,_,⟨_,_,_⟩,⟨⟨_,_,_,_⟩,_,_,_⟩⟩⟩,_,_,_⟩,_⟩:=v4
  refine Wk [999] 0 [] Wz

end Go.Vx
