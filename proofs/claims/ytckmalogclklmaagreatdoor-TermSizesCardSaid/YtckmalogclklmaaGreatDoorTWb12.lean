/- Walks, by program (lift5.py): the code does what the lifted functions say. -/
import Derived.Test.YtckmalogclklmaaGreatDoorTHead
import Derived.Test.YtckmalogclklmaaGreatDoorTWb2
import Derived.Test.YtckmalogclklmaaGreatDoorTWb3
import Derived.Test.YtckmalogclklmaaGreatDoorTWb4
import Derived.Test.YtckmalogclklmaaGreatDoorTWb6
import Derived.Test.YtckmalogclklmaaGreatDoorTWb7
import Derived.Test.YtckmalogclklmaaGreatDoorTWb8
import Derived.Test.YtckmalogclklmaaGreatDoorTDg
import Derived.Test.YtckmalogclklmaaGreatDoorTSd
import Derived.Test.YtckmalogclklmaaGreatDoorTCh
set_option linter.all false
namespace Go.Vx
open Go.Proofs
set_option maxRecDepth 100000
set_option maxHeartbeats 8000000
set_option linter.unusedVariables false
set_option linter.unusedSimpArgs false
attribute [local irreducible] chk ay av aM lI

theorem Oh s sep sepSave n r (h:strings_genSplit s sep sepSave n=some r):Pf 104 [vs s,vs sep,vi sepSave,vi n] (Us aj r):=by
  unfold strings_genSplit at h
  refine bC Tryz.func104 fun ctr hc=>?_
  revert h;refine bE 3 [] 0 [] (Wq ?_);intro h;intros
  refine bq h (ctr+3) [(3,1),(15,6)] [] (fun n1 u=>Fa [(3,vi n1)] []) (fun n1 uc ug ut ht hu hp h=>?_) (fun f h=>?_)
  · revert h;refine bE 4 [] 0 [] (Wq ?_);intro h;intros
    refine bq h (uc+4) [(0,1),(9,2),(22,24)] [(31,1)] (fun (s1,i,a) u1=>⟨[(0,vs s1),(10,vi i)],[(31,Rs aj (uc+1) ((std Tryz.prog).uf n1 ((std Tryz.prog).add ((std Tryz.prog).sG s) 1)) (u1.t 31) a)],fun _=>ah a=(bH n1 ((cZ s)+1))⟩) (fun x cu fJ fE ht hu hp h=>?_) (fun f h=>?_)
    · obtain ⟨_,_,_⟩:=x
      try dsimp only at hp h
      refine Wx [] 0 [] Wz
    · refine Tr.block ?_
      refine dO h (uc+4) [(0,1),(9,2),(22,24)] [(31,1)] (fun (s2,i1,a1) u2=>⟨[(0,vs s2),(10,vi i1)],[(31,Rs aj (uc+1) ((std Tryz.prog).uf n1 ((std Tryz.prog).add ((std Tryz.prog).sG s) 1)) (u2.t 31) a1)],fun _=>ah a1=(bH n1 ((cZ s)+1))⟩) bW (fun x jB ny mF f ht hu hp h=>?_)
      obtain ⟨s2,_,_⟩:=x
      try dsimp only at hp h
      refine bB ?_
      refine Wo 39 0 (Ug s2 sep) fun v h37=>?_
      refine Wk [] 0 [] Wz
  · refine bB ?_
    refine Wo 23 0 (Uh s sep) fun v1 h44=>?_
    refine Wk [] 0 [] Wz

theorem pI s sep r (h:strings_Split s sep=some r):Pf 61 [vs s,vs sep] (Us aj r):=by
  unfold strings_Split at h
  refine bC Tryz.func61 fun ctr hc=>?_
  refine bB ?_
  refine Wo 7 1 (Oh s sep 0 (-1)) fun v h1=>?_
  refine Wk [] 0 [] Wz

theorem Oi s base bitSize r (h:y7 s base bitSize=some r):Pf 107 [vs s,vi base,vi bitSize] (.gX 2 (fun j=>match j with | 0=>(vi r.1) | 1=>(.v .nilIface) | _=>.junk)):=by
  unfold y7 at h
  refine bC Tryz.func107 fun ctr hc=>?_
  refine bB ?_
  refine Wi 13 0 h sB (MI _ _ _) fun v h1=>?_
  obtain ⟨_,_⟩:=v
  refine Wk [] 0 [] Wz

theorem kT s r (h:nS s=some r):Pf 63 [vs s] (vi r):=by
  unfold nS at h
  refine bC Tryz.func63 fun ctr hc=>?_
  refine bB ?_
  refine Wo 7 0 (Oi s 16 32) fun v h1=>?_
  obtain ⟨_,_⟩:=v
  refine Wk [] 0 [] Wz

theorem VB s r (h:Gf s=some r):Pf 28 [vs s] (vi r):=by
  unfold Gf at h
  refine bC Tryz.func28 fun ctr hc=>?_
  refine bB ?_
  refine Wo 4 0 (kT s) fun v h1=>?_
  refine Wk [] 0 [] Wz

theorem Pn text r (h:vG text=some r):Pf 26 [vs text,.fn (.func 27) 0 (fun _=>.junk)] (wL aj r):=by
  unfold vG at h
  refine bC Tryz.func26 fun ctr hc=>?_
  revert h;refine bE 2 [] 0 [] (Wq ?_);intro h;intros
  refine bq h (ctr+2) [(7,50)] [(5,1),(5,1),(42,1)] (fun o u=>Fa [] [(5,.box (ctr+1) [.vec 54 (u.g 54) 3 0 (aj.len o)]),(54,lS aj (u.g 54) (aj.len o) (u.t 54) o)]) (fun o uc ug ut ht hu hp h=>?_) (fun f h=>?_)
  · refine Wx [] 0 [] Wz
  · refine bB ?_
    refine Wi 11 1 h sB (pI _ _) fun v Ye=>?_
    revert h;refine jI 1 [] 0 [] (Wq ?_);intro h;intros
    refine Tr.block ?_
    refine dO h (ctr+3) [(7,3),(3,44)] [(5,1),(48,1)] (fun (v1,o1) u1=>Fa [(13,vi v1)] [(5,.box (ctr+1) [.vec 54 (u1.g 54) 3 0 (aj.len o1)]),(54,lS aj (u1.g 54) (aj.len o1) (u1.t 54) o1)]) bW (fun x cu fJ fE f ht hu hp h=>?_)
    obtain ⟨_,o1⟩:=x
    try dsimp only at hp h
    revert h;refine bE 2 [] 0 [] (Wq ?_);intro h;intros
    refine bq h (cu+1) [(7,3),(5,41)] [(5,1),(3,1),(8,1),(35,1)] (fun o2 u2=>⟨[],[(5,.box (ctr+1) [.vec 54 (u2.g 54) 3 0 ((std Tryz.prog).add (aj.len o1) 1)]),(54,lS aj (u2.g 54) ((std Tryz.prog).add (aj.len o1) 1) (u2.t 54) o2)],fun _=>ah o2=((ah o1)+1)⟩) (fun o2 jB ny mF ht hu hp h=>?_) (fun f h=>?_)
    · try dsimp only at hp h
      refine Wx [] 0 [] Wz
    · refine Tr.block ?_
      refine bB ?_
      refine Wi 18 1 h (sC sB) (wE _) fun v2 h59=>?_
      revert h;refine jI 3 [] 0 [] (Wq ?_);intro h;intros
      refine bq h (cu+4) [(19,25)] [(9,1)] (fun (Ar,Gi,Gj) u3=>Fa [] [(9,.box (cu+3) [vi Ar,vi Gi,vi Gj])]) (fun x nA vN vo ht hu hp h=>?_) (fun f h=>?_)
      · obtain ⟨_,_,_⟩:=x
        try dsimp only at hp h
        refine Wx [53] 0 [] Wz
      · revert h;refine bE 1 [] 0 [] (Wq ?_);intro h;intros
        refine Tr.block ?_
        refine bq h (cu+5) [(21,9)] [(9,1)] (fun vH u4=>Fa [] [(9,.box (cu+3) [vi 0,vi vH,vi 0])]) (fun vH sw EM DR ht hu hp h=>?_) (fun f h=>?_)
        · refine bB ?_
          refine Wi 33 0 h (sC sB) (kT _) fun v3 XY=>?_
          refine Wi 41 0 h (sC (sK v3 (sC (sC sB)))) (Uj _) fun v4 Zf=>?_
          refine Wk [] 0 [] Wz
        · refine bB ?_
          refine Wi 28 0 h (sT (sC sB)) (kT _) fun v5 h76=>?_
          refine Wk [] 0 [] Wz

theorem Sv text r (h:wS text=some r):Pf 26 [vs text,.fn (.func 29) 0 (fun _=>.junk)] (wL aj r):=by
  unfold wS at h
  refine bC Tryz.func26 fun ctr hc=>?_
  revert h;refine bE 2 [] 0 [] (Wq ?_);intro h;intros
  refine bq h (ctr+2) [(7,50)] [(5,1),(5,1),(42,1)] (fun o u=>Fa [] [(5,.box (ctr+1) [.vec 54 (u.g 54) 3 0 (aj.len o)]),(54,lS aj (u.g 54) (aj.len o) (u.t 54) o)]) (fun o uc ug ut ht hu hp h=>?_) (fun f h=>?_)
  · refine Wx [] 0 [] Wz
  · refine bB ?_
    refine Wi 11 1 h sB (pI _ _) fun v Ye=>?_
    revert h;refine jI 1 [] 0 [] (Wq ?_);intro h;intros
    refine Tr.block ?_
    refine dO h (ctr+3) [(7,3),(3,44)] [(5,1),(48,1)] (fun (v1,o1) u1=>Fa [(13,vi v1)] [(5,.box (ctr+1) [.vec 54 (u1.g 54) 3 0 (aj.len o1)]),(54,lS aj (u1.g 54) (aj.len o1) (u1.t 54) o1)]) bW (fun x cu fJ fE f ht hu hp h=>?_)
    obtain ⟨_,o1⟩:=x
    try dsimp only at hp h
    revert h;refine bE 2 [] 0 [] (Wq ?_);intro h;intros
    refine bq h (cu+1) [(7,3),(5,41)] [(5,1),(3,1),(8,1),(35,1)] (fun o2 u2=>⟨[],[(5,.box (ctr+1) [.vec 54 (u2.g 54) 3 0 ((std Tryz.prog).add (aj.len o1) 1)]),(54,lS aj (u2.g 54) ((std Tryz.prog).add (aj.len o1) 1) (u2.t 54) o2)],fun _=>ah o2=((ah o1)+1)⟩) (fun o2 jB ny mF ht hu hp h=>?_) (fun f h=>?_)
    · try dsimp only at hp h
      refine Wx [] 0 [] Wz
    · refine Tr.block ?_
      refine bB ?_
      refine Wi 18 1 h (sC sB) (wE _) fun v2 h59=>?_
      revert h;refine jI 3 [] 0 [] (Wq ?_);intro h;intros
      refine bq h (cu+4) [(19,25)] [(9,1)] (fun (Ar,Gi,Gj) u3=>Fa [] [(9,.box (cu+3) [vi Ar,vi Gi,vi Gj])]) (fun x nA vN vo ht hu hp h=>?_) (fun f h=>?_)
      · obtain ⟨_,_,_⟩:=x
        try dsimp only at hp h
        refine Wx [53] 0 [] Wz
      · revert h;refine bE 1 [] 0 [] (Wq ?_);intro h;intros
        refine Tr.block ?_
        refine bq h (cu+5) [(21,9)] [(9,1)] (fun vH u4=>Fa [] [(9,.box (cu+3) [vi 0,vi vH,vi 0])]) (fun vH sw EM DR ht hu hp h=>?_) (fun f h=>?_)
        · refine bB ?_
          refine Wi 33 0 h (sC sB) (kT _) fun v3 XY=>?_
          refine Wi 41 0 h (sC (sK v3 (sC (sC sB)))) (VD _) fun v4 Zf=>?_
          refine Wk [] 0 [] Wz
        · refine bB ?_
          refine Wi 28 0 h (sT (sC sB)) (kT _) fun v5 h76=>?_
          refine Wk [] 0 [] Wz

theorem Po text r (h:zA text=some r):Pf 30 [vs text] (acy aj r):=by
  unfold zA at h
  refine bC Tryz.func30 fun ctr hc=>?_
  revert h;refine bE 2 [] 0 [] (Wq ?_);intro h;intros
  refine bq h (ctr+2) [(3,1),(1,27)] [(8,1),(21,1)] (fun l' u=>Fa [(3,.vec 30 (u.g 30) 2 0 (aj.len l'))] [(30,U7 aj (u.g 30) (aj.len l') (u.t 30) l')]) (fun l' uc ug ut ht hu hp h=>?_) (fun f h=>?_)
  · refine Wx [] 0 [] Wz
  · refine bB ?_
    refine Wi 8 1 h sB (pI _ _) fun v h20=>?_
    revert h;refine jI 1 [] 0 [] (Wq ?_);intro h;intros
    refine Tr.block ?_
    refine dO h (ctr+3) [(3,1),(1,2),(3,22)] [(15,1),(14,1)] (fun (v1,gG) u1=>Fa [(3,.vec 30 (u1.g 30) 2 0 (aj.len gG)),(10,vi v1)] [(30,U7 aj (u1.g 30) (aj.len gG) (u1.t 30) gG)]) bW (fun x cu fJ fE f ht hu hp h=>?_)
    obtain ⟨_,_⟩:=x
    try dsimp only at hp h
    refine bB ?_
    refine Wi 15 1 h (sT (sC sB)) (wE _) fun v2 h40=>?_
    refine Wo 23 0 (kT (au ByteArray.empty v2 (0+0))) fun v3 h42=>?_
    refine Wo 27 0 (kT (au ByteArray.empty v2 (0+1))) fun v4 h44=>?_
    refine Wk [29] 0 [] Wz

theorem ZK text r (h:Iu text=some r):Pf 31 [vs text] (acw aj r):=by
  unfold Iu at h
  refine bC Tryz.func31 fun ctr hc=>?_
  revert h;refine bE 2 [] 0 [] (Wq ?_);intro h;intros
  refine bq h (ctr+2) [(3,1),(1,31)] [(8,1),(25,1)] (fun l' u=>Fa [(3,.vec 34 (u.g 34) 3 0 (aj.len l'))] [(34,U6 aj (u.g 34) (aj.len l') (u.t 34) l')]) (fun l' uc ug ut ht hu hp h=>?_) (fun f h=>?_)
  · refine Wx [] 0 [] Wz
  · refine bB ?_
    refine Wi 8 1 h sB (pI _ _) fun v Ye=>?_
    revert h;refine jI 1 [] 0 [] (Wq ?_);intro h;intros
    refine Tr.block ?_
    refine dO h (ctr+3) [(3,1),(1,2),(3,26)] [(15,1),(18,1)] (fun (v1,gG) u1=>Fa [(3,.vec 34 (u1.g 34) 3 0 (aj.len gG)),(10,vi v1)] [(34,U6 aj (u1.g 34) (aj.len gG) (u1.t 34) gG)]) bW (fun x cu fJ fE f ht hu hp h=>?_)
    obtain ⟨_,_⟩:=x
    try dsimp only at hp h
    refine bB ?_
    refine Wi 15 1 h (sT (sC sB)) (wE _) fun v2 h48=>?_
    refine Wo 23 0 (kT (au ByteArray.empty v2 (0+0))) fun v3 h50=>?_
    refine Wo 27 0 (kT (au ByteArray.empty v2 (0+1))) fun v4 h52=>?_
    refine Wo 31 0 (kT (au ByteArray.empty v2 (0+2))) fun v5 h54=>?_
    refine Wk [33] 0 [] Wz

theorem YG s r' r (h:LJ s r'=some r):Pf 137 [gW aj s,vi r'] (.gX 2 (fun j=>match j with | 0=>(gW aj r.1) | 1=>(rR aj r.2) | _=>.junk)):=by
  obtain ⟨q,q1,q2,⟨q3,q4⟩,q5,q6⟩:=s
  unfold LJ at h
  try dsimp only at h
  refine bC Tryz.func137 fun ctr hc=>?_
  revert h;refine bE 1 [999] 0 [] (Wq ?_);intro h;intros
  refine Wgo 0 h (ctr+1) [(5,82)] [(6,1)] (fun next u=>Fa [(6,.dI 6 (u.g 6) 0),(7,.cO)] [(6,.box (u.g 6) (cellsOf 7 fun j=>(qb aj next j)))]) (fun next uc ug ut ht hu hp h=>?_) (fun f h=>?_)
  · refine bB ?_
    refine Wi 84 1 h sB (ZL _) fun v h4=>?_
    refine Wk [999] 0 [] Wz
  · refine bB ?_
    refine Wi 9 0 h sB (EA _) fun v1 h6=>?_
    revert h;refine jI 3 [999] 0 [] (Wq ?_);intro h;intros
    refine bB ?_
    refine Wi 48 0 h (sF (sF (sF (sF sB)))) (Sz _) fun v2 h7=>?_
    refine Wo 79 0 (Uk ⟨q,q1,q2,⟨q3,q4⟩,q5,q6⟩ (IntKind.wrap .u8 r')) fun v3 h8=>?_
    obtain ⟨⟨_,_,_,⟨_,_⟩,_,_⟩,_⟩:=v3
    refine Wkp 2 [999] 0 [] Wz

theorem YH s l' r (h:LK s l'=some r):Pf 94 [gW aj s,Li aj l'] (.gX 2 (fun j=>match j with | 0=>(gW aj r.1) | 1=>(rR aj r.2) | _=>.junk)):=by
  unfold LK at h
  refine bC Tryz.func94 fun ctr hc=>?_
  refine bB ?_
  refine Wo 11 0 (EA s) fun v h1=>?_
  revert h;refine jI 3 [] 0 [] (Wq ?_);intro h;intros
  refine bq h (ctr+3) [(6,1),(1,2),(4,16)] [(2,1),(25,1)] (fun (s1,all) u=>Fa [(6,.vec 28 (u.g 28) 6 0 (aj.len all))] [(2,.box (ctr+0) (cellsOf 7 fun j=>(qb aj s1 j))),(28,Ou aj (u.g 28) (aj.len all) (u.t 28) all)]) (fun x uc ug ut ht hu hp h=>?_) (fun f h=>?_)
  · obtain ⟨_,_⟩:=x
    try dsimp only at hp h
    refine Wx [] 0 [] Wz
  · revert h;refine bE 1 [] 0 [] (Wq ?_);intro h;intros
    refine Tr.block ?_
    refine dO h (ctr+4) [(6,1),(1,2),(6,14)] [(2,1),(25,1)] (fun (v1,s2,all1) u1=>Fa [(6,.vec 28 (u1.g 28) 6 0 (aj.len all1)),(16,vi v1)] [(2,.box (ctr+0) (cellsOf 7 fun j=>(qb aj s2 j))),(28,Ou aj (u1.g 28) (aj.len all1) (u1.t 28) all1)]) bW (fun x cu fJ fE f ht hu hp h=>?_)
    obtain ⟨v1,s2,_⟩:=x
    try dsimp only at hp h
    refine bB ?_
    refine Wo 23 0 (YG s2 (au 0 l' v1)) fun v2 h19=>?_
    obtain ⟨⟨_,_,_,⟨_,_⟩,_,_⟩,_⟩:=v2
    refine Wk [] 0 [] Wz

theorem Ul c' r' r (h:Es c' r'=some r):Pf 333 [kG aj c',jg aj r'] (.gX 2 (fun j=>match j with | 0=>(vi r.1) | 1=>(vi r.2) | _=>.junk)):=by
  obtain ⟨_,_,_,_,⟨_,_,_⟩,⟨⟨_,_,_,_⟩,_,_,_⟩⟩:=c'
  unfold Es at h
  try dsimp only at h
  refine bC Tryz.func333 fun ctr hc=>?_
  refine bB ?_
  refine Wi 9 0 h sB (sD _ _) fun v h1=>?_
  refine Wk [] 0 [] Wz

theorem IQ i r (h:strconv_Itoa i=some r):Pf 101 [vi i] (vs r):=by
  unfold strconv_Itoa at h
  refine bC Tryz.func101 fun ctr hc=>?_
  refine bB ?_
  refine Wo 4 0 (Um i) fun v h1=>?_
  refine Wk [] 0 [] Wz

theorem VE s r (h:Gs s=some r):Pf 240 [dF aj s] (vs r):=by
  unfold Gs at h
  refine bC Tryz.func240 fun ctr hc=>?_
  refine bB ?_
  refine Wo 7 0 (jX s) fun v h1=>?_
  refine Wo 13 0 (Ul v.fC v.fR) fun v1 h2=>?_
  obtain ⟨q,q1⟩:=v1
  refine Wo 17 0 (IQ q) fun v2 h3=>?_
  refine Wo 20 0 (IQ q1) fun v3 h5=>?_
  refine Wk [] 0 [] Wz

theorem Un s u a r (h:Eu s u a=some r):Pf 235 [dF aj s,dZ aj u,zV aj a] (dF aj r):=by
  unfold Eu at h
  refine bC Tryz.func235 fun ctr hc=>?_
  refine bB ?_
  refine Wo 8 0 (Xp a) fun v h1=>?_
  refine Wo 17 0 (VE s) fun v1 h2=>?_
  refine Wo 19 0 (Uo s (EZ (⟨#[27,91]⟩:ByteArray) v1)) fun v2 h4=>?_
  refine Wk [] 0 [] Wz

theorem MJ t' r (h:rC t'=some r):Pf 5 [mG aj t'] (gP aj r):=by
  unfold rC at h
  refine bC Tryz.func5 fun ctr hc=>?_
  refine bB ?_
  refine Wo 30 0 (Kz t'.fS) fun v h1=>?_
  refine Wk [] 0 [] Wz

theorem sH t' r (h:jW t'=some r):Pf 9 [gP aj t'] (mG aj r):=by
  unfold jW at h
  refine bC Tryz.func9 fun ctr hc=>?_
  refine bB ?_
  refine Wo 30 0 (H8 t'.fS) fun v h1=>?_
  refine Wk [] 0 [] Wz

end Go.Vx
