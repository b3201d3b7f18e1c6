/- Walks, by program (lift5.py): the code does what the lifted functions say. -/
import Derived.Test.YtckmalogclklmaaGreatDoorTHead
import Derived.Test.YtckmalogclklmaaGreatDoorTWb6
import Derived.Test.YtckmalogclklmaaGreatDoorTWb8
import Derived.Test.YtckmalogclklmaaGreatDoorTWb9
import Derived.Test.YtckmalogclklmaaGreatDoorTWb10
import Derived.Test.YtckmalogclklmaaGreatDoorTDg
import Derived.Test.YtckmalogclklmaaGreatDoorTSd
import Derived.Test.YtckmalogclklmaaGreatDoorTCh
import Derived.Test.YtckmalogclklmaaGreatDoorTWb5
import Derived.Test.YtckmalogclklmaaGreatDoorTWb11
import Derived.Test.YtckmalogclklmaaGreatDoorTWb12
set_option linter.all false
section
namespace Go.Vx
open Go.Proofs
set_option maxRecDepth 100000
set_option maxHeartbeats 8000000
set_option linter.unusedVariables false
set_option linter.unusedSimpArgs false
attribute [local irreducible] chk ay av aM lI

theorem GZ l' w r (h:l7 l' w=some r):Pf 125 [Nu aj l',vi w] (DC aj r):=by
  unfold l7 at h
  refine bC Tryz.func125 fun ctr hc=>?_
  revert h;refine bE 2 [] 0 [] (Wq ?_);intro h;intros
  refine bq h (ctr+2) [(5,1),(1,13)] [(18,1)] (fun all u=>Fa [(5,.vec 18 (u.g 18) 4 0 (aj.len all))] [(18,iM aj (u.g 18) (aj.len all) (u.t 18) all)]) (fun all uc ug ut ht hu hp h=>?_) (fun f h=>?_)
  · refine Wx [] 0 [] Wz
  · revert h;refine bE 1 [] 0 [] (Wq ?_);intro h;intros
    refine Tr.block ?_
    refine dO h (ctr+3) [(5,1),(1,1),(2,10)] [(7,1),(9,2)] (fun (v,all1) u1=>Fa [(5,.vec 18 (u1.g 18) 4 0 (aj.len all1)),(10,vi v)] [(18,iM aj (u1.g 18) (aj.len all1) (u1.t 18) all1)]) bW (fun x cu fJ fE f ht hu hp h=>?_)
    obtain ⟨_,_⟩:=x
    try dsimp only at hp h
    refine bB ?_
    refine Wi 17 1 h (sT (sC sB)) (IU _ _) fun v1 h18=>?_
    refine Wk [] 0 [] Wz

theorem VI l' w p' r (h:wm l' w p'=some r):Pf 124 [Nu aj l',vi w,J2 aj p'] (.gX 3 (fun j=>match j with | 0=>(vi r.1) | 1=>(vi r.2.1) | 2=>(vb r.2.2) | _=>.junk)):=by
  obtain ⟨_,_⟩:=p'
  unfold wm at h
  try dsimp only at h
  refine bC Tryz.func124 fun ctr hc=>?_
  revert h;refine bE 2 [] 0 [] (Wq ?_);intro h;intros
  refine bq h (ctr+2) [(6,3),(1,1),(21,10)] [] (fun _ u=>Fa [] []) (fun x uc ug ut ht hu hp h=>?_) (fun f h=>?_)
  · refine bB ?_
    refine Wi 47 1 h (sC sB) (GZ _ _) fun v h8=>?_
    refine Wi 55 1 h (sC (sK v (sC sB))) (IU _ _) fun v1 h10=>?_
    revert h;refine jI 3 [] 0 [] (Wq ?_);intro h;intros
    refine bq h (uc+3) [(6,3),(4,1),(1,2),(44,18)] [] (fun Y1 u1=>Fa [(13,vi Y1)] []) (fun Y1 cu fJ fE ht hu hp h=>?_) (fun f h=>?_)
    · refine Wx [] 0 [] Wz
    · revert h;refine bE 1 [] 0 [] (Wq ?_);intro h;intros
      refine Tr.block ?_
      refine dO h (uc+4) [(6,3),(4,1),(1,2),(45,17)] [] (fun (LW,v2) u2=>Fa [(13,vi LW),(62,vi v2)] []) bW (fun x jB ny mF f ht hu hp h=>?_)
      obtain ⟨_,v2⟩:=x
      try dsimp only at hp h
      refine bB ?_
      refine Wo 67 4 (CF v1 v2) fun v3 h31=>?_
      refine Wk [] 0 [] Wz
  · revert h;refine bE 1 [] 0 [] (Wq ?_);intro h;intros
    refine Tr.block ?_
    refine dO h (ctr+3) [(6,3),(1,1),(23,8)] [(10,1)] (fun v4 u3=>Fa [(34,vi v4)] []) bW (fun v4 nA vN vo f ht hu hp h=>?_)
    refine bB ?_
    refine Wi 39 0 h (sT (sC sB)) (KH _) fun v5 h42=>?_
    refine Wk [] 0 [] Wz

theorem Ur l' w y' at' r (h:uM l' w y' at'=some r):Pf 82 [iC aj l',vi w,vi y',vi at'] (.gX 3 (fun j=>match j with | 0=>(iC aj r.1) | 1=>(vi r.2.1) | 2=>(vi r.2.2) | _=>.junk)):=by
  unfold uM at h
  refine bC Tryz.func82 fun ctr hc=>?_
  refine bB ?_
  refine Wo 21 0 (Xq l' y' at') fun v h1=>?_
  obtain ⟨⟨q,q1⟩,_⟩:=v
  refine Wo 30 1 (Xr l') fun v1 h2=>?_
  refine Wo 35 4 (VI v1 w ⟨q,q1⟩) fun v2 h3=>?_
  obtain ⟨_,_,_⟩:=v2
  refine Wo 41 1 (GZ v1 w) fun v3 h4=>?_
  refine Wk [] 0 [(6,[.freeze (.slot 13)])] Wz

theorem um a b r (h:kE a b=some r):Pf 8 [mG aj a,mG aj b] (vb r):=by
  obtain ⟨⟨_⟩,⟨_,_,_,⟨_,_⟩,_,_⟩,⟨⟨⟨_⟩,⟨_,_,_,_,⟨_,_,_⟩,⟨⟨_,_,_,_⟩,_,_,_⟩⟩,⟨_,_,_,_⟩,⟨_,_⟩,⟨_,_⟩,_,_⟩,⟨⟨_⟩,⟨_,_,_,_,⟨_,_,_⟩,⟨⟨_,_,_,_⟩,_,_,_⟩⟩,⟨_,_,_,_⟩,⟨_,_⟩,⟨_,_⟩,_,_⟩,_,⟨_⟩,⟨⟨_,_,_,_,⟨_,_,_⟩,⟨⟨_,_,_,_⟩,_,_,_⟩⟩,⟨_,_,_,_,⟨_,_,_⟩,⟨⟨_,_,_,_⟩,_,_,_⟩⟩⟩,_,_,_⟩,_⟩:=a
  obtain ⟨⟨_⟩,⟨_,_,_,⟨_,_⟩,_,_⟩,⟨⟨⟨_⟩,⟨_,_,_,_,⟨_,_,_⟩,⟨⟨_,_,_,_⟩,_,_,_⟩⟩,⟨_,_,_,_⟩,⟨_,_⟩,⟨_,_⟩,_,_⟩,⟨⟨_⟩,⟨_,_,_,_,⟨_,_,_⟩,⟨⟨_,_,_,_⟩,_,_,_⟩⟩,⟨_,_,_,_⟩,⟨_,_⟩,⟨_,_⟩,_,_⟩,_,⟨_⟩,⟨⟨_,_,_,_,⟨_,_,_⟩,⟨⟨_,_,_,_⟩,_,_,_⟩⟩,⟨_,_,_,_,⟨_,_,_⟩,⟨⟨_,_,_,_⟩,_,_,_⟩⟩⟩,_,_,_⟩,_⟩:=b
  unfold kE at h
  try dsimp only at h
  refine bC Tryz.func8 fun ctr hc=>?_
  refine bB ?_
  refine mR 19 0 h sB (MK _ _) fun v h1=>?_
  refine mR 26 0 h (sK v sB) (MG _ _) fun v1 h2=>?_
  refine Wk [] 0 [] Wz

end Go.Vx
end

section
namespace Go.Vx
open Go.Proofs
set_option maxRecDepth 100000
set_option maxHeartbeats 8000000
set_option linter.unusedVariables false
set_option linter.unusedSimpArgs false
attribute [local irreducible] chk ay av aM lI

theorem SB text r (h:wR text=some r):Pf 26 [vs text,.fn (.func 28) 0 (fun _=>.junk)] (wL aj r):=by
  unfold wR at h
  refine bC Tryz.func26 fun ctr hc=>?_
  revert h;refine bE 2 [] 0 [] (Wq ?_);intro h;intros
  refine bq h (ctr+2) [(7,50)] [(5,1),(5,1),(42,1)] (fun o u=>Fa [] [(5,.box (ctr+1) [.vec 54 (u.g 54) 3 0 (aj.len o)]),(54,lS aj (u.g 54) (aj.len o) (u.t 54) o)]) (fun o uc ug ut ht hu hp h=>?_) (fun f h=>?_)
  · refine Wx [] 0 [] Wz
  · refine bB ?_
    refine Wi 11 1 h sB (pI _ _) fun v Ye=>?_
    revert h;refine jI 1 [] 0 [] (Wq ?_);intro h;intros
    refine Tr.block ?_
    refine dO h (ctr+3) [(7,3),(3,44)] [(5,1),(48,1)] (fun (v1,o1) u1=>Fa [(13,vi v1)] [(5,.box (ctr+1) [.vec 54 (u1.g 54) 3 0 (aj.len o1)]),(54,lS aj (u1.g 54) (aj.len o1) (u1.t 54) o1)]) bW (fun x cu fJ fE f ht hu hp h=>?_)
    obtain ⟨_,o1⟩:=x
    try dsimp only at hp h
    revert h;refine bE 2 [] 0 [] (Wq ?_);intro h;intros
    refine bq h (cu+1) [(7,3),(5,41)] [(5,1),(3,1),(8,1),(35,1)] (fun o2 u2=>⟨[],[(5,.box (ctr+1) [.vec 54 (u2.g 54) 3 0 ((std Tryz.prog).add (aj.len o1) 1)]),(54,lS aj (u2.g 54) ((std Tryz.prog).add (aj.len o1) 1) (u2.t 54) o2)],fun _=>ah o2=((ah o1)+1)⟩) (fun o2 jB ny mF ht hu hp h=>?_) (fun f h=>?_)
    · try dsimp only at hp h
      refine Wx [] 0 [] Wz
    · refine Tr.block ?_
      refine bB ?_
      refine Wi 18 1 h (sC sB) (wE _) fun v2 h59=>?_
      revert h;refine jI 3 [] 0 [] (Wq ?_);intro h;intros
      refine bq h (cu+4) [(19,25)] [(9,1)] (fun (Ar,Gi,Gj) u3=>Fa [] [(9,.box (cu+3) [vi Ar,vi Gi,vi Gj])]) (fun x nA vN vo ht hu hp h=>?_) (fun f h=>?_)
      · obtain ⟨_,_,_⟩:=x
        try dsimp only at hp h
        refine Wx [53] 0 [] Wz
      · revert h;refine bE 1 [] 0 [] (Wq ?_);intro h;intros
        refine Tr.block ?_
        refine bq h (cu+5) [(21,9)] [(9,1)] (fun vH u4=>Fa [] [(9,.box (cu+3) [vi 0,vi vH,vi 0])]) (fun vH sw EM DR ht hu hp h=>?_) (fun f h=>?_)
        · refine bB ?_
          refine Wi 33 0 h (sC sB) (kT _) fun v3 XY=>?_
          refine Wi 41 0 h (sC (sK v3 (sC (sC sB)))) (VB _) fun v4 Zf=>?_
          refine Wk [] 0 [] Wz
        · refine bB ?_
          refine Wi 28 0 h (sT (sC sB)) (kT _) fun v5 h76=>?_
          refine Wk [] 0 [] Wz

theorem abe r (h:BR=some r):Pf 12 [] (dZ aj r):=by
  unfold BR at h
  refine bC Tryz.func12 fun ctr hc=>?_
  refine bB ?_
  refine Wo 1 0 (Pn kS1) fun v h1=>?_
  refine Wo 2 0 (SB kS2) fun v1 h2=>?_
  refine Wo 3 0 (Sv kS3) fun v2 h3=>?_
  refine Wo 4 1 (Po kS4) fun v3 h4=>?_
  refine Wo 5 1 (Po kS5) fun v4 h5=>?_
  refine Wo 6 1 (ZK kS6) fun v5 h6=>?_
  refine Wk [] 0 [] Wz

theorem acW v a0 a1 a2 r (h:W9 v a0 a1 a2=some r):Pf (aj.fF v) ([dF aj a0,dZ aj a1,zV aj a2]++cellsOf (aj.fK v) (aj.fC v)) (dF aj r):=by
  unfold W9 at h
  split at h
  · exact Un a0 a1 a2 r h
  · cases h

theorem SC d' r' dir r (h:Cm d' r' dir=some r):Pf 166 [dZ aj d',Li aj r',vi dir] (.gX 2 (fun j=>match j with | 0=>(Li aj r.1) | 1=>(vi r.2) | _=>.junk)):=by
  unfold Cm at h
  refine bC Tryz.func166 fun ctr hc=>?_
  refine bB ?_
  refine Wo 12 1 (VJ d' r') fun v h1=>?_
  refine Wo 26 3 (Xi d' r' v dir) fun v1 h2=>?_
  refine Wk [] 0 [] Wz

theorem ZO d' l' from' to boxes r (h:O6 d' l' from' to boxes=some r):Pf 113 [dZ aj d',iC aj l',vi from',vi to,vb boxes] (FT aj r):=by
  unfold O6 at h
  refine bC Tryz.func113 fun ctr hc=>?_
  refine bB ?_
  refine Wi 18 1 h (sC sB) (Ky _) fun v h2=>?_
  refine Wi 27 0 h (sC (sK v (sC sB))) (SC _ _ _) fun v1 h4=>?_
  obtain ⟨q,_⟩:=v1
  refine Wo 37 1 (Vz d' v q boxes) fun v2 h5=>?_
  refine Wk [] 0 [(2,[.freeze (.slot 11)])] Wz

theorem abf d' l' y' boxes r (h:T9 d' l' y' boxes=some r):Pf 66 [dZ aj d',iC aj l',vi y',vb boxes] (.gX 2 (fun j=>match j with | 0=>(xO aj r.1) | 1=>(vb r.2) | _=>.junk)):=by
  unfold T9 at h
  refine bC Tryz.func66 fun ctr hc=>?_
  refine bB ?_
  refine mR 22 0 h sB (ZP _) fun v h1=>?_
  refine Wo 39 0 (YC l' y') fun v1 h3=>?_
  obtain ⟨q,q1⟩:=v1
  refine Wo 50 0 (ZO d' l' q q1 boxes) fun v2 h4=>?_
  refine Wo 51 0 (aa8 d' l' y' v2) fun v3 h5=>?_
  refine Wk [] 0 [] Wz

end Go.Vx
end
