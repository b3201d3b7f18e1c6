/- Walks, by program (lift5.py): the code does what the lifted functions say. -/
import Derived.Test.YtckmalogclklmaaGreatDoorTHead
import Derived.Test.YtckmalogclklmaaGreatDoorTWb2
import Derived.Test.YtckmalogclklmaaGreatDoorTWb3
import Derived.Test.YtckmalogclklmaaGreatDoorTWb4
import Derived.Test.YtckmalogclklmaaGreatDoorTDg
import Derived.Test.YtckmalogclklmaaGreatDoorTSd
import Derived.Test.YtckmalogclklmaaGreatDoorTCh
set_option linter.all false
namespace Go.Vx
open Go.Proofs
set_option maxRecDepth 100000
set_option maxHeartbeats 8000000
set_option linter.unusedVariables false
set_option linter.unusedSimpArgs false
attribute [local irreducible] chk ay av aM lI

theorem yO h' w r (h:qF h' w=some r):Pf 43 [vi h',vi w] (.gX 2 (fun j=>match j with | 0=>(kG aj r.1) | 1=>(jg aj r.2) | _=>.junk)):=by
  unfold qF at h
  refine bC Tryz.func43 fun ctr hc=>?_
  refine bB ?_
  refine Wo 8 0 (rG h' 1 1000) fun v h1=>?_
  refine Wo 10 0 (rG w 1 4096) fun v1 h2=>?_
  refine Wo 11 0 (Xy v v1) fun v2 h3=>?_
  refine Wo 12 0 (Xz) fun v3 h4=>?_
  refine Wk [999] 0 [] Wz

theorem NM b r (h:Av b=some r):Pf 37 [Lu aj b] (.gX 2 (fun j=>match j with | 0=>(vi r.1) | 1=>(vi r.2) | _=>.junk)):=by
  unfold Av at h
  refine bC Tryz.func37 fun ctr hc=>?_
  refine bB ?_
  refine Wo 12 0 (abg (au 0 b 0)) fun v h2=>?_
  obtain ⟨_,_,_⟩:=v
  revert h;refine jI 4 [] 0 [] (Wq ?_);intro h;intros
  refine bq h (ctr+4) [(5,3),(10,27)] [] (fun k' u=>Fa [(7,vi k')] []) (fun k' uc ug ut ht hu hp h=>?_) (fun f h=>?_)
  · refine Wx [] 0 [] Wz
  · refine Tr.block ?_
    refine dO h (ctr+4) [(5,3),(10,27)] [] (fun (lo1,hi1,zB) u1=>Fa [(5,vu lo1),(6,vu hi1),(7,vi zB)] []) bW (fun x cu fJ fE f ht hu hp h=>?_)
    obtain ⟨_,_,_⟩:=x
    try dsimp only at hp h
    refine Wx [] 0 [] Wz

theorem Td s r (h:vV s=some r):Pf 15 [Ju aj s] (vb r):=by
  obtain ⟨q⟩:=s
  unfold vV at h
  try dsimp only at h
  refine bC Tryz.func15 fun ctr hc=>?_
  refine bB ?_
  refine Wo 12 0 (NM q) fun v h1=>?_
  obtain ⟨_,_⟩:=v
  refine Wk [] 0 [] Wz

theorem YQ r' l' jU oF r (h:LP r' l' jU oF=some r) (AX:Int) (ag6:ah l'=AX) (l8:Bool):jc Tryz.prog 169 [jS aj r',.vec 0 0 7 jU oF] [kS aj 0 AX l8 l'] [.dead 1] (jS aj r):=by
  unfold LP at h
  refine Il Tryz.func169 (mH Tryz.f169) fun ctr hc=>?_
  replace h:=dQ h;obtain ⟨h11,h⟩:=h
  revert h;refine bE 1 [] 1 [] (Wq ?_);intro h;intros
  refine bq h (ctr+1) [(5,19)] [] (fun _ u=>Fa [] []) (fun x uc ug ut ht hu hp h=>?_) (fun f h=>?_)
  · refine Wx [] 1 [(7,[.freeze (.slot 1)])] Wz
  · revert h;refine bE 1 [] 1 [] (Wq ?_);intro h;intros
    refine Tr.block ?_
    refine dO h (ctr+2) [(5,1),(2,16)] [] (fun v u1=>Fa [(8,vi v)] []) bW (fun v cu fJ fE f ht hu hp h=>?_)
    refine bB ?_
    refine Wi 14 4 h (sT sB) (Ti _ _) fun v1 h9=>?_
    refine Wk [] 1 [] Wz

theorem Ky l' r (h:Dp l'=some r):Pf 164 [iC aj l'] (Ui aj r):=by
  unfold Dp at h
  refine bC Tryz.func164 fun ctr hc=>?_
  revert h;refine bE 2 [] 0 [] (Wq ?_);intro h;intros
  refine bq h (ctr+2) [(3,1),(1,18)] [(21,1)] (fun out u=>Fa [(3,.vec 21 (u.g 21) 1 0 (aj.len out))] [(21,Ri aj (u.g 21) (aj.len out) (u.t 21) out)]) (fun out uc ug ut ht hu hp h=>?_) (fun f h=>?_)
  · refine Wx [] 0 [] Wz
  · revert h;refine bE 1 [] 0 [] (Wq ?_);intro h;intros
    refine Tr.block ?_
    refine dO h (ctr+3) [(3,1),(1,3),(2,13)] [(5,1),(15,1)] (fun (v,aO) u1=>Fa [(3,.vec 21 (u1.g 21) 1 0 (aj.len aO)),(10,vi v)] [(21,Ri aj (u1.g 21) (aj.len aO) (u1.t 21) aO)]) bW (fun x cu fJ fE f ht hu hp h=>?_)
    obtain ⟨_,_⟩:=x
    try dsimp only at hp h
    refine bB ?_
    refine Wi 16 0 h (sT (sC sB)) (IL _) fun v1 h18=>?_
    obtain ⟨_,_⟩:=v1
    refine Wk [] 0 [] Wz

theorem QG d' r' r (h:Iw d' r'=some r):Pf 263 [dZ aj d',vi r'] (vi r):=by
  unfold Iw at h
  refine bC Tryz.func263 fun ctr hc=>?_
  refine bB ?_
  refine Wi 9 0 h sB (EB _ _) fun v h1=>?_
  refine Wk [] 0 [] Wz

theorem VJ d' r' r (h:Gt d' r'=some r):Pf 265 [dZ aj d',Li aj r'] (Ui aj r):=by
  unfold Gt at h
  refine bC Tryz.func265 fun ctr hc=>?_
  revert h;refine bE 2 [] 0 [] (Wq ?_);intro h;intros
  refine bq h (ctr+2) [(6,2),(3,14)] [(10,1)] (fun out u=>⟨[],[(10,Ri aj (ctr+1) (aj.len r') (u.t 10) out)],fun _=>ah out=(ah r')⟩) (fun out uc ug ut ht hu hp h=>?_) (fun f h=>?_)
  · try dsimp only at hp h
    refine Wx [] 0 [] Wz
  · revert h;refine bE 1 [] 0 [] (Wq ?_);intro h;intros
    refine Tr.block ?_
    refine dO h (ctr+3) [(6,2),(5,12)] [(10,1)] (fun (v,aO) u1=>⟨[(13,vi v)],[(10,Ri aj (ctr+1) (aj.len r') (u1.t 10) aO)],fun _=>ah aO=(ah r')⟩) bW (fun x cu fJ fE f ht hu hp h=>?_)
    obtain ⟨v,_⟩:=x
    try dsimp only at hp h
    refine bB ?_
    refine Wo 22 0 (QG d' (au 0 r' v)) fun v1 h19=>?_
    refine Wk [] 0 [] Wz

theorem Ph l' r' base r (h:AJ l' r' base=some r):Pf 353 [Li aj l',Di aj r',vi base] (.own 1 (aj.len r) false (fun ix jx=>(.sl 1 (aj.len (aj.get [] r ix)) false (fun kL xL=>(vi (aj.get 0 (aj.get [] r ix) kL)))))):=by
  unfold AJ at h
  refine bC Tryz.func353 fun ctr hc=>?_
  refine bB ?_
  refine Wo 25 0 (NR l' r') fun v h1=>?_
  refine Wo 28 1 (CJ l') fun v1 h2=>?_
  refine Wo 30 1 (YN r') fun v2 h3=>?_
  revert h;refine jI 5 [] 0 [] (Wq ?_);intro h;intros
  refine bq h (ctr+5) [(10,1),(24,9)] [(34,1)] (fun heads u=>⟨[],[(34,Ri aj (ctr+4) ((std Tryz.prog).add (aj.len l') 1) (u.t 34) heads)],fun _=>ah heads=((ah l')+1)⟩) (fun heads uc ug ut ht hu hp h=>?_) (fun f h=>?_)
  · try dsimp only at hp h
    refine bq h uc [(11,2),(31,14)] [(34,1)] (fun Vr u1=>⟨[],[(34,Ri aj (ctr+4) ((std Tryz.prog).add (aj.len l') 1) (u1.t 34) Vr)],fun _=>ah Vr=((ah l')+1)⟩) (fun Vr cu fJ fE ht hu hp h=>?_) (fun f h=>?_)
    · try dsimp only at hp h
      revert h;refine bE 2 [] 0 [] (Wq ?_);intro h;intros
      refine bq h (cu+2) [(15,4),(45,39)] [(60,1),(2,1)] (fun behind u2=>⟨[],[(60,Ri aj (cu+0) (aj.len v2) (u2.t 60) behind),(63,Rb aj (cu+1) (aj.len v2) (u2.t 63) (aj.rep (aj.len v2) false))],fun _=>ah behind=(ah v2)⟩) (fun behind jB ny mF ht hu hp h=>?_) (fun f h=>?_)
      · try dsimp only at hp h
        revert h;refine bE 1 [] 0 [] (Wq ?_);intro h;intros
        refine bq h (jB+1) [(19,4),(80,27)] [(128,1)] (fun out u3=>Fa [(19,.vec 128 (u3.g 128) 1 0 (aj.len out))] [(128,.arr (u3.g 128) 1 (aj.len out) (u3.t 128) (fun ix jx=>(.sl 1 (aj.len (aj.get [] out ix)) false (fun kL xL=>(vi (aj.get 0 (aj.get [] out ix) kL))))))]) (fun out nA vN vo ht hu hp h=>?_) (fun f h=>?_)
        · refine Wx [] 0 [] Wz
        · revert h;refine bE 1 [] 0 [] (Wq ?_);intro h;intros
          refine Tr.block ?_
          refine dO h (jB+2) [(19,4),(82,25)] [(128,1)] (fun (v3,aO) u4=>Fa [(19,.vec 128 (u4.g 128) 1 0 (aj.len aO)),(105,vi v3)] [(128,.arr (u4.g 128) 1 (aj.len aO) (u4.t 128) (fun ix jx=>(.sl 1 (aj.len (aj.get [] aO ix)) false (fun kL xL=>(vi (aj.get 0 (aj.get [] aO ix) kL))))))]) bW (fun x sw EM DR f ht hu hp h=>?_)
          obtain ⟨_,_⟩:=x
          try dsimp only at hp h
          revert h;refine bE 2 [] 0 [] (Wq ?_);intro h;intros
          refine bq h (sw+1) [(19,4),(84,22)] [(128,1)] (fun jy u5=>Fa [(19,.vec 128 (u5.g 128) 1 0 (aj.len jy))] [(128,.arr (u5.g 128) 1 (aj.len jy) (u5.t 128) (fun ix jx=>(.sl 1 (aj.len (aj.get [] jy ix)) false (fun kL xL=>(vi (aj.get 0 (aj.get [] jy ix) kL))))))]) (fun jy GU Pg NK ht hu hp h=>?_) (fun f h=>?_)
          · refine Wx [] 0 [] Wz
          · refine Tr.block ?_
            revert h;refine bE 3 [] 0 [] (Wq ?_);intro h;intros
            refine bq h (sw+4) [(21,2),(89,13)] [(124,1)] (fun seq u6=>Fa [(21,.vec 124 (u6.g 124) 1 0 (aj.len seq))] [(124,Ri aj (u6.g 124) (aj.len seq) (u6.t 124) seq)]) (fun seq Tc u6g ZH ht hu hp h=>?_) (fun f h=>?_)
            · refine Wx [127] 0 [(39,[.freeze (.slot 21)])] Wz
            · revert h;refine bE 1 [] 0 [] (Wq ?_);intro h;intros
              refine Tr.block ?_
              refine dO h (sw+5) [(21,2),(90,12)] [(124,1)] (fun (at',seq1) u7=>Fa [(21,.vec 124 (u7.g 124) 1 0 (aj.len seq1)),(22,vi at')] [(124,Ri aj (u7.g 124) (aj.len seq1) (u7.t 124) seq1)]) bW (fun x u7c u7g u7t f ht hu hp h=>?_)
              obtain ⟨_,_⟩:=x
              try dsimp only at hp h
              refine Wx [] 0 [] Wz
      · revert h;refine bE 1 [] 0 [] (Wq ?_);intro h;intros
        refine Tr.block ?_
        refine dO h (cu+3) [(15,4),(47,37)] [(60,1),(2,1)] (fun (v4,Ko) u8=>⟨[(66,vi v4)],[(60,Ri aj (cu+0) (aj.len v2) (u8.t 60) Ko),(63,Rb aj (cu+1) (aj.len v2) (u8.t 63) (aj.rep (aj.len v2) false))],fun _=>ah Ko=(ah v2)⟩) bW (fun x u8c u8g u8t f ht hu hp h=>?_)
        obtain ⟨_,_⟩:=x
        try dsimp only at hp h
        refine bB ?_
        refine Wi 84 0 h (sT (sC (sC (sC (sC (sC sB)))))) (G8 _) fun v5 arn=>?_
        refine Wk [] 0 [] Wz
    · revert h;refine bE 1 [] 0 [] (Wq ?_);intro h;intros
      refine Tr.block ?_
      refine dO h (uc+1) [(11,2),(33,12)] [(34,1)] (fun (v6,O0) u9=>⟨[(46,vi v6)],[(34,Ri aj (ctr+4) ((std Tryz.prog).add (aj.len l') 1) (u9.t 34) O0)],fun _=>ah O0=((ah l')+1)⟩) bW (fun x u9c u9g u9t f ht hu hp h=>?_)
      obtain ⟨_,_⟩:=x
      try dsimp only at hp h
      refine Wx [] 0 [] Wz
  · revert h;refine bE 1 [] 0 [] (Wq ?_);intro h;intros
    refine Tr.block ?_
    refine dO h (ctr+6) [(10,1),(26,7)] [(34,1)] (fun (v7,OZ) u10=>⟨[(37,vi v7)],[(34,Ri aj (ctr+4) ((std Tryz.prog).add (aj.len l') 1) (u10.t 34) OZ)],fun _=>ah OZ=((ah l')+1)⟩) bW (fun x afS ajh aji f ht hu hp h=>?_)
    obtain ⟨_,_⟩:=x
    try dsimp only at hp h
    refine Wx [] 0 [] Wz

theorem Xo d' r' levels base r (h:JL d' r' levels base=some r):Pf 165 [dZ aj d',Li aj r',Li aj levels,vi base] (Ui aj r):=by
  unfold JL at h
  refine bC Tryz.func165 fun ctr hc=>?_
  refine bB ?_
  refine Wo 14 1 (jF levels) fun v h1=>?_
  revert h;refine jI 4 [] 0 [] (Wq ?_);intro h;intros
  refine bq h (ctr+4) [(10,3),(8,34)] [(14,1)] (fun out u=>⟨[],[(14,Ri aj (ctr+1) (aj.len v) (u.t 14) out)],fun _=>ah out=(ah v)⟩) (fun out uc ug ut ht hu hp h=>?_) (fun f h=>?_)
  · try dsimp only at hp h
    refine Wx [] 0 [] Wz
  · revert h;refine bE 1 [] 0 [] (Wq ?_);intro h;intros
    refine Tr.block ?_
    refine dO h (ctr+5) [(10,3),(11,31)] [(14,1)] (fun (end',i1,aO) u1=>⟨[(10,vb end'),(11,vi i1)],[(14,Ri aj (ctr+1) (aj.len v) (u1.t 14) aO)],fun _=>ah aO=(ah v)⟩) bW (fun x cu fJ fE f ht hu hp h=>?_)
    obtain ⟨_,i1,_⟩:=x
    try dsimp only at hp h
    refine bB ?_
    refine Wo 33 0 (QG d' (au 0 r' i1)) fun v1 h31=>?_
    refine Wo 47 0 (V3 v1) fun v2 h32=>?_
    refine Wk [] 0 [] Wz

theorem XF levels widths r (h:JM levels widths=some r):Pf 258 [Li aj levels,Li aj widths] (.gX 2 (fun j=>match j with | 0=>(Li aj r.1) | 1=>(vb r.2) | _=>.junk)):=by
  unfold JM at h
  refine bC Tryz.func258 fun ctr hc=>?_
  revert h;refine bE 4 [] 0 [] (Wq ?_);intro h;intros
  refine bq h (ctr+4) [(4,2),(1,3),(12,21)] [(21,1)] (fun (n,starts) u=>⟨[(7,vi n)],[(21,Ri aj (ctr+2) (aj.len widths) (u.t 21) starts)],fun _=>ah starts=(ah widths)⟩) (fun x uc ug ut ht hu hp h=>?_) (fun f h=>?_)
  · obtain ⟨_,_⟩:=x
    try dsimp only at hp h
    revert h;refine bE 1 [] 0 [] (Wq ?_);intro h;intros
    refine bq h (uc+1) [(10,1),(1,2),(31,25)] [(44,1),(1,1)] (fun out u1=>Fa [(10,.vec 44 (u1.g 44) 1 0 (aj.len out))] [(44,Ri aj (u1.g 44) (aj.len out) (u1.t 44) out)]) (fun out cu fJ fE ht hu hp h=>?_) (fun f h=>?_)
    · refine Wx [] 0 [] Wz
    · refine bB ?_
      refine Wo 46 1 (VY levels) fun v h34=>?_
      revert h;refine jI 1 [] 0 [] (Wq ?_);intro h;intros
      refine Tr.block ?_
      refine dO h (uc+2) [(10,1),(1,2),(34,22)] [(44,1)] (fun (v1,aO) u2=>Fa [(10,.vec 44 (u2.g 44) 1 0 (aj.len aO)),(48,vi v1)] [(44,Ri aj (u2.g 44) (aj.len aO) (u2.t 44) aO)]) bW (fun x jB ny mF f ht hu hp h=>?_)
      obtain ⟨_,_⟩:=x
      try dsimp only at hp h
      revert h;refine bE 2 [] 0 [] (Wq ?_);intro h;intros
      refine bq h (jB+1) [(10,1),(1,2),(36,19)] [(44,1)] (fun jy u3=>Fa [(10,.vec 44 (u3.g 44) 1 0 (aj.len jy))] [(44,Ri aj (u3.g 44) (aj.len jy) (u3.t 44) jy)]) (fun jy nA vN vo ht hu hp h=>?_) (fun f h=>?_)
      · refine Wx [] 0 [] Wz
      · refine Tr.block ?_
        revert h;refine bE 2 [] 0 [] (Wq ?_);intro h;intros
        refine Tr.block ?_
        refine dO h (jB+3) [(10,1),(2,1),(42,13)] [(44,1),(22,1)] (fun (v2,kD) u4=>Fa [(10,.vec 44 (u4.g 44) 1 0 (aj.len kD)),(56,vi v2)] [(44,Ri aj (u4.g 44) (aj.len kD) (u4.t 44) kD)]) bW (fun x sw EM DR f ht hu hp h=>?_)
        obtain ⟨_,_⟩:=x
        try dsimp only at hp h
        refine Wx [66] 0 [] Wz
  · revert h;refine bE 1 [] 0 [] (Wq ?_);intro h;intros
    refine Tr.block ?_
    refine dO h (ctr+5) [(4,2),(1,3),(14,19)] [(21,1)] (fun (n1,v3,Kq) u5=>⟨[(7,vi n1),(24,vi v3)],[(21,Ri aj (ctr+2) (aj.len widths) (u5.t 21) Kq)],fun _=>ah Kq=(ah widths)⟩) bW (fun x GU Pg NK f ht hu hp h=>?_)
    obtain ⟨_,_,_⟩:=x
    try dsimp only at hp h
    refine Wx [] 0 [] Wz

theorem aa9 cells levels widths base r (h:TW cells levels widths base=some r):Pf 161 [lQ aj cells,Li aj levels,Li aj widths,vi base] (xO aj r):=by
  unfold TW at h
  refine bC Tryz.func161 fun ctr hc=>?_
  refine bB ?_
  refine Wi 17 0 h sB (XF _ _) fun v h1=>?_
  obtain ⟨q,_⟩:=v
  refine Wo 24 0 (VZ q) fun v1 h2=>?_
  obtain ⟨_,_⟩:=v1
  revert h;refine jI 5 [] 0 [] (Wq ?_);intro h;intros
  refine bq h (ctr+5) [(10,2),(21,17)] [(31,1)] (fun o u=>⟨[],[(31,kS aj (ctr+4) (aj.len q) (u.t 31) o)],fun _=>ah o=(ah q)⟩) (fun o uc ug ut ht hu hp h=>?_) (fun f h=>?_)
  · try dsimp only at hp h
    refine Wx [] 0 [] Wz
  · revert h;refine bE 1 [] 0 [] (Wq ?_);intro h;intros
    refine Tr.block ?_
    refine dO h (ctr+6) [(10,2),(24,14)] [(31,1)] (fun (v2,o1) u1=>⟨[(36,vi v2)],[(31,kS aj (ctr+4) (aj.len q) (u1.t 31) o1)],fun _=>ah o1=(ah q)⟩) bW (fun x cu fJ fE f ht hu hp h=>?_)
    obtain ⟨_,_⟩:=x
    try dsimp only at hp h
    refine Wx [] 0 [] Wz

theorem Xx x' at' r (h:JN x' at'=some r):Pf 34 [xO aj x',vi at'] (vi r):=by
  unfold JN at h
  refine bC Tryz.func34 fun ctr hc=>?_
  refine bB ?_
  refine Wi 8 0 h sB (YP _ _) fun v h1=>?_
  refine Wk [] 0 [] Wz

end Go.Vx
