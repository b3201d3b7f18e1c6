/- Walks, by program (lift5.py): the code does what the lifted functions say. -/
import Derived.Test.YtckmalogclklmaaGreatDoorTHead
import Derived.Test.YtckmalogclklmaaGreatDoorTWb2
import Derived.Test.YtckmalogclklmaaGreatDoorTWb4
import Derived.Test.YtckmalogclklmaaGreatDoorTWb5
import Derived.Test.YtckmalogclklmaaGreatDoorTWb7
import Derived.Test.YtckmalogclklmaaGreatDoorTWb9
import Derived.Test.YtckmalogclklmaaGreatDoorTDg
import Derived.Test.YtckmalogclklmaaGreatDoorTSd
import Derived.Test.YtckmalogclklmaaGreatDoorTCh
set_option linter.all false
namespace Go.Vx
open Go.Proofs
set_option maxRecDepth 100000
set_option maxHeartbeats 8000000
set_option linter.unusedVariables false
set_option linter.unusedSimpArgs false
attribute [local irreducible] chk ay av aM lI

theorem wW s r (h:mX s=some r):Pf 39 [gJ aj s] (vb r):=by
  obtain ⟨⟨q⟩,⟨_,_,_,_,⟨_,_,_⟩,⟨⟨_,_,_,_⟩,_,_,_⟩⟩,⟨_,_,_,_⟩,⟨_,_⟩,⟨GX,q22⟩,_,_⟩:=s
  unfold mX at h
  try dsimp only at h
  refine bC Tryz.func39 fun ctr hc=>?_
  refine bB ?_
  refine Wi 17 0 h (sF sB) (sD _ _) fun v h1=>?_
  refine mR 22 0 h (sF (sK v sB)) (Pm _) fun v1 h2=>?_
  refine Wo 37 0 (ZM ⟨q⟩) fun v2 h3=>?_
  obtain ⟨_,_⟩:=v2
  refine Wo 54 0 (AY ⟨GX,q22⟩) fun v3 h4=>?_
  refine Wk [] 0 [] Wz

theorem wX s r (h:mY s=some r):Pf 17 [dF aj s] (vb r):=by
  obtain ⟨⟨⟨_⟩,⟨_,_,_,_,⟨_,_,_⟩,⟨⟨_,_,_,_⟩,_,_,_⟩⟩,⟨GV,q16,KA,KC⟩,⟨_,_⟩,⟨_,_⟩,_,_⟩,⟨⟨_⟩,⟨_,_,_,_,⟨_,_,_⟩,⟨⟨_,_,_,_⟩,_,_,_⟩⟩,⟨KD,KE,KF,KG⟩,⟨_,_⟩,⟨_,_⟩,_,_⟩,_,⟨_⟩,⟨⟨_,_,_,_,⟨_,_,_⟩,⟨⟨_,_,_,_⟩,_,_,_⟩⟩,⟨_,_,_,_,⟨_,_,_⟩,⟨⟨_,_,_,_⟩,_,_,_⟩⟩⟩,_,_,_⟩:=s
  unfold mY at h
  try dsimp only at h
  refine bC Tryz.func17 fun ctr hc=>?_
  refine bB ?_
  refine Wi 8 0 h sB (wW _) fun v h1=>?_
  refine mR 13 0 h (sK v sB) (wW _) fun v1 h2=>?_
  refine mR 19 0 h (sK v (sK v1 sB)) (NQ _) fun v2 h3=>?_
  refine Wo 25 0 (AZ ⟨GV,q16,KA,KC⟩) fun v3 h4=>?_
  obtain ⟨_,_,_,_⟩:=v3
  refine Wo 30 0 (AZ ⟨KD,KE,KF,KG⟩) fun v4 h5=>?_
  obtain ⟨_,_,_,_⟩:=v4
  revert h;refine jI 4 [] 0 [] (Wq ?_);intro h;intros
  refine bq h (ctr+4) [(2,1),(2,1),(26,10)] [] (fun _ u=>Fa [] []) (fun x uc ug ut ht hu hp h=>?_) (fun f h=>?_)
  · refine Wx [] 0 [] Wz
  · revert h;refine bE 1 [] 0 [] (Wq ?_);intro h;intros
    refine Tr.block ?_
    refine Tr.rounds 3 ?_
    refine iO h (ctr+5) [(2,1),(2,1),(28,8)] [(5,1)] (fun _ u1=>Fa [(34,vi 1)] []) (fun x cu fJ fE ht hu hp h=>?_) (fun f h=>?_)
    · refine iO h cu [(2,1),(2,1),(28,8)] [(5,1)] (fun _ u2=>Fa [(34,vi 2)] []) (fun x jB ny mF ht hu hp h=>?_) (fun f h=>?_)
      · refine Wx [] 0 [] Wz
      · refine bB ?_
        refine Wi 39 0 h sB (sD _ _) fun v5 h14=>?_
        refine Wk [] 0 [] Wz
    · refine bB ?_
      refine Wi 39 0 h sB (sD _ _) fun v6 h16=>?_
      refine Wk [] 0 [] Wz

theorem nJ t' r (h:lu t'=some r):Pf 6 [gP aj t'] (vb r):=by
  obtain ⟨⟨q⟩,⟨_,_,_,⟨_,_⟩,_,_⟩,⟨⟨⟨_⟩,⟨_,_,_,_,⟨_,_,_⟩,⟨⟨_,_,_,_⟩,_,_,_⟩⟩,⟨_,_,_,_⟩,⟨_,_⟩,⟨_,_⟩,_,_⟩,⟨⟨_⟩,⟨_,_,_,_,⟨_,_,_⟩,⟨⟨_,_,_,_⟩,_,_,_⟩⟩,⟨_,_,_,_⟩,⟨_,_⟩,⟨_,_⟩,_,_⟩,_,⟨_⟩,⟨⟨_,_,_,_,⟨_,_,_⟩,⟨⟨_,_,_,_⟩,_,_,_⟩⟩,⟨_,_,_,_,⟨_,_,_⟩,⟨⟨_,_,_,_⟩,_,_,_⟩⟩⟩,_,_,_⟩,_⟩:=t'
  unfold lu at h
  try dsimp only at h
  refine bC Tryz.func6 fun ctr hc=>?_
  refine bB ?_
  refine Wo 5 0 (Td ⟨q⟩) fun v h1=>?_
  refine mR 10 0 h (sK v sB) (EA _) fun v1 h2=>?_
  refine mR 16 0 h (sK v (sK v1 sB)) (wX _) fun v2 h3=>?_
  refine mR 26 0 h (sK v (sK v1 (sK v2 (sF sB)))) (GY _) fun v3 h4=>?_
  obtain ⟨_,_⟩:=v3
  refine Wk [] 0 [] Wz

theorem acV v a0 r (h:WZ v a0=some r):Pf (aj.fF v) ([jS aj a0]++cellsOf (aj.fK v) (aj.fC v)) (jS aj r):=by
  unfold WZ at h
  split at h
  · exact SA a0 _ _ _ _ _ _ _ _ _ r h
  · cases h

theorem VF s steps r (h:Gp s steps=some r):Pf 283 [gJ aj s,(.sl 1 (aj.len steps) false (fun ix jx=>(.fn (.func (aj.fF (aj.get WW steps ix))) (aj.fK (aj.get WW steps ix)) (aj.fC (aj.get WW steps ix)))))] (gJ aj r):=by
  obtain ⟨⟨q⟩,⟨_,q2,_,_,⟨_,_,_⟩,⟨⟨_,_,_,_⟩,_,_,_⟩⟩,⟨_,_,_,_⟩,⟨_,_⟩,⟨_,_⟩,_,_⟩:=s
  unfold Gp at h
  try dsimp only at h
  refine bC Tryz.func283 fun ctr hc=>?_
  revert h;refine bE 2 [] 0 [] (Wq ?_);intro h;intros
  refine bq h (ctr+2) [(7,1),(8,10)] [(5,1)] (fun r' u=>Fa [] [(5,.box (ctr+1) (cellsOf 4 fun j=>(bU aj r' j)))]) (fun r' uc ug ut ht hu hp h=>?_) (fun f h=>?_)
  · refine bB ?_
    refine Wo 32 0 (abb ⟨q⟩ q2 r') fun v h8=>?_
    refine Wk [] 0 [] Wz
  · revert h;refine bE 1 [] 0 [] (Wq ?_);intro h;intros
    refine Tr.block ?_
    refine dO h (ctr+3) [(7,1),(10,8)] [(5,1)] (fun (v1,r'1) u1=>Fa [(18,vi v1)] [(5,.box (ctr+1) (cellsOf 4 fun j=>(bU aj r'1 j)))]) bW (fun x cu fJ fE f ht hu hp h=>?_)
    obtain ⟨_,_⟩:=x
    try dsimp only at hp h
    refine bB ?_
    refine Wiv 24 h (sT (sC sB)) (acV _ _) fun v2 h16=>?_
    refine Wk [] 0 [] Wz

theorem VG s r' w insert auto r (h:Gq s r' w insert auto=some r):Pf 190 [gJ aj s,vi r',vi w,vb insert,vb auto] (gJ aj r):=by
  obtain ⟨⟨_⟩,⟨_,_,_,_,⟨_,_,_⟩,⟨⟨_,_,_,_⟩,_,_,_⟩⟩,⟨_,_,_,_⟩,⟨_,_⟩,⟨_,_⟩,_,_⟩:=s
  unfold Gq at h
  try dsimp only at h
  refine bC Tryz.func190 fun ctr hc=>?_
  refine bB ?_
  refine Wi 16 0 h sB (wW _) fun v h1=>?_
  revert h;refine jI 3 [999] 0 [] (Wq ?_);intro h;intros
  refine bq h (ctr+3) [(46,8)] [] (fun _ u=>Fa [] []) (fun x uc ug ut ht hu hp h=>?_) (fun f h=>?_)
  · refine bq h uc [(54,18)] [] (fun _ u1=>Fa [] []) (fun x cu fJ fE ht hu hp h=>?_) (fun f h=>?_)
    · revert h;refine bE 2 [999] 0 [] (Wq ?_);intro h;intros
      refine bq h (cu+2) [(14,1),(67,12)] [] (fun _ u2=>Fa [(14,.cO)] []) (fun x jB ny mF ht hu hp h=>?_) (fun f h=>?_)
      · refine bB ?_
        refine Wi 100 8 h (sC sB) (VF _ _) fun v1 h5=>?_
        refine Wk [96,999] 0 [(15,[.freeze (.slot 14)])] Wz
      · refine Wx [999] 0 [] Wz
    · refine Wx [999] 0 [] Wz
  · refine Wx [999] 0 [] Wz

theorem VH s r (h:GD s=some r):Pf 60 [dF aj s] (.gX 2 (fun j=>match j with | 0=>(dF aj r.1) | 1=>(Lu aj r.2) | _=>.junk)):=by
  obtain ⟨⟨⟨_⟩,⟨_,_,_,_,⟨_,_,_⟩,⟨⟨_,_,_,_⟩,_,_,_⟩⟩,⟨_,_,_,_⟩,⟨_,_⟩,⟨_,_⟩,_,_⟩,⟨⟨_⟩,⟨_,_,_,_,⟨_,_,_⟩,⟨⟨_,_,_,_⟩,_,_,_⟩⟩,⟨_,_,_,_⟩,⟨_,_⟩,⟨_,_⟩,_,_⟩,_,⟨_⟩,⟨⟨_,_,_,_,⟨_,_,_⟩,⟨⟨_,_,_,_⟩,_,_,_⟩⟩,⟨_,_,_,_,⟨_,_,_⟩,⟨⟨_,_,_,_⟩,_,_,_⟩⟩⟩,_,_,_⟩:=s
  unfold GD at h
  try dsimp only at h
  refine bC Tryz.func60 fun ctr hc=>?_
  refine bB ?_
  refine Wi 6 0 h sB (wX _) fun v h1=>?_
  refine Wk [] 0 [] Wz

end Go.Vx
