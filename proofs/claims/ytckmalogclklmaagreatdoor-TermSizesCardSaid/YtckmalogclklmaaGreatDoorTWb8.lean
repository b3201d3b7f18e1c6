/- Walks, by program (lift5.py): the code does what the lifted functions say. -/
import Derived.Test.YtckmalogclklmaaGreatDoorTHead
import Derived.Test.YtckmalogclklmaaGreatDoorTWb2
import Derived.Test.YtckmalogclklmaaGreatDoorTWb3
import Derived.Test.YtckmalogclklmaaGreatDoorTWb4
import Derived.Test.YtckmalogclklmaaGreatDoorTDg
import Derived.Test.YtckmalogclklmaaGreatDoorTSd
import Derived.Test.YtckmalogclklmaaGreatDoorTCh
set_option linter.all false
namespace Go.Vx
open Go.Proofs
set_option maxRecDepth 100000
set_option maxHeartbeats 8000000
set_option linter.unusedVariables false
set_option linter.unusedSimpArgs false
attribute [local irreducible] chk ay av aM lI

theorem MO s substr r (h:stringslite_Index s substr=some r):Pf 250 [vs s,vs substr] (vi r):=by
  unfold stringslite_Index at h
  refine bC Tryz.func250 fun ctr hc=>?_
  refine bB ?_
  refine Wo 30 0 (G6 s (lC substr 0)) fun v h2=>?_
  refine Wkp 8 [] 0 [] Wz

theorem Ug s substr r (h:strings_Index s substr=some r):Pf 156 [vs s,vs substr] (vi r):=by
  unfold strings_Index at h
  refine bC Tryz.func156 fun ctr hc=>?_
  refine bB ?_
  refine Wo 7 0 (MO s substr) fun v h1=>?_
  refine Wk [] 0 [] Wz

theorem KR s base bitSize r (h:vU s base bitSize=some r):Pf 251 [vs s,vi base,vi bitSize] (.gX 2 (fun j=>match j with | 0=>(.v (.int .u64 r.1)) | 1=>(.v .nilIface) | _=>.junk)):=by
  unfold vU at h
  refine bC Tryz.func251 fun ctr hc=>?_
  revert h;refine bE 4 [] 0 [] (Wq ?_);intro h;intros
  refine bq h (ctr+4) [(0,2),(4,2),(16,52)] [] (fun _ u=>Fa [(0,vs s),(1,vi base)] []) (fun x uc ug ut ht hu hp h=>?_) (fun f h=>?_)
  · refine bq h uc [(2,1),(3,2),(68,9)] [] (fun _ u1=>Fa [(2,vi bitSize)] []) (fun x cu fJ fE ht hu hp h=>?_) (fun f h=>?_)
    · revert h;refine bE 1 [] 0 [] (Wq ?_);intro h;intros
      refine bq h (cu+1) [(10,1),(74,9)] [] (fun _ u2=>Fa [(10,.v (.int .u64 1152921504606846976))] []) (fun x jB ny mF ht hu hp h=>?_) (fun f h=>?_)
      · revert h;refine bE 3 [] 0 [] (Wq ?_);intro h;intros
        refine bq h (jB+3) [(6,2),(4,2),(1,3),(80,66)] [] (fun n u3=>Fa [(12,vb false),(13,.v (.int .u64 n))] []) (fun n nA vN vo ht hu hp h=>?_) (fun f h=>?_)
        · refine bB ?_
          refine mR 167 0 h sB (G7 _) fun v h21=>?_
          refine Wk [] 0 [] Wz
        · revert h;refine bE 1 [] 0 [] (Wq ?_);intro h;intros
          refine Tr.block ?_
          refine dO h (jB+4) [(6,2),(4,2),(1,3),(81,1),(1,63)] [] (fun (n1,v1) u4=>Fa [(12,vb false),(13,.v (.int .u64 n1)),(99,Lu aj (aj.bys s)),(101,vi v1)] []) bW (fun x sw EM DR f ht hu hp h=>?_)
          obtain ⟨_,_⟩:=x
          try dsimp only at hp h
          revert h;refine bE 2 [] 0 [] (Wq ?_);intro h;intros
          refine bq h (sw+1) [(6,2),(4,2),(1,3),(85,60)] [] (fun n2 u5=>Fa [(12,vb false),(13,.v (.int .u64 n2))] []) (fun n2 GU Pg NK ht hu hp h=>?_) (fun f h=>?_)
          · refine Wx [] 0 [] Wz
          · refine Tr.block ?_
            revert h;refine bE 2 [] 0 [] (Wq ?_);intro h;intros
            refine bq h (sw+3) [(6,2),(4,1),(3,1),(88,29)] [] (fun d' u6=>Fa [(12,vb false),(16,vu d')] []) (fun d' Tc u6g ZH ht hu hp h=>?_) (fun f h=>?_)
            · refine Wx [] 0 [] Wz
            · refine bB ?_
              refine Wi 123 0 h (sF (sF sB)) (He _) fun v2 h58=>?_
              refine mR 127 0 h (sF (sF (sK v2 sB))) (He _) fun v3 h59=>?_
              refine Wod 131 0 h58 ?_
              refine Wk [] 0 [] Wz
      · refine Wx [] 0 [] Wz
    · refine Wx [] 0 [] Wz
  · refine Wx [] 0 [] Wz

theorem MI s base bitSize r (h:xI s base bitSize=some r):Pf 157 [vs s,vi base,vi bitSize] (.gX 2 (fun j=>match j with | 0=>(vi r.1) | 1=>(.v .nilIface) | _=>.junk)):=by
  unfold xI at h
  refine bC Tryz.func157 fun ctr hc=>?_
  revert h;refine bE 3 [] 0 [] (Wq ?_);intro h;intros
  refine bq h (ctr+3) [(0,1),(7,1),(6,10)] [] (fun _ u=>Fa [(0,vs s),(8,vb false)] []) (fun x uc ug ut ht hu hp h=>?_) (fun f h=>?_)
  · refine bB ?_
    refine Wi 29 0 h sB (KR _ _ _) fun v h2=>?_
    obtain ⟨_,_⟩:=v
    refine Wk [] 0 [] Wz
  · refine Wx [] 0 [] Wz

theorem zh f' r (h:uL f'=some r):Pf 212 [(.fn (.func (aj.fF f')) (aj.fK f') (aj.fC f'))] ((.fn (.func (aj.fF r)) (aj.fK r) (aj.fC r))):=by
  unfold uL at h
  refine bC Tryz.func212 fun ctr hc=>?_
  refine bB ?_
  refine Wi 4 6 h sB (ji _) fun v h1=>?_
  refine Wk [] 0 [] Wz

theorem nT dy dx begin r (h:kQ dy dx begin=some r):Pf 215 [vi dy,vi dx,vb begin] ((.fn (.func (aj.fF r)) (aj.fK r) (aj.fC r))):=by
  unfold kQ at h
  refine bC Tryz.func215 fun ctr hc=>?_
  refine bB ?_
  refine Wi 8 6 h sB (zh _) fun v h1=>?_
  refine Wk [] 0 [] Wz

theorem KS i base r (h:wh i base=some r):Pf 246 [vi i,vi base] (vs r):=by
  unfold wh at h
  refine bC Tryz.func246 fun ctr hc=>?_
  refine bB ?_
  refine Wo 19 0 (SH i) fun v h1=>?_
  refine Wk [] 0 [] Wz

theorem Um i r (h:Et i=some r):Pf 151 [vi i] (vs r):=by
  unfold Et at h
  refine bC Tryz.func151 fun ctr hc=>?_
  refine bB ?_
  refine Wo 4 0 (KS i 10) fun v h1=>?_
  refine Wk [] 0 [] Wz

theorem EN c' r (h:oQ c'=some r):Pf 273 [zX aj c'] (vb r):=by
  obtain ⟨_,⟨_,_⟩,_,⟨_,_,_⟩⟩:=c'
  unfold oQ at h
  try dsimp only at h
  refine bC Tryz.func273 fun ctr hc=>?_
  refine bB ?_
  refine Wi 5 0 h sB (QD _) fun v h1=>?_
  obtain ⟨_,⟨_,_⟩,_,⟨_,_,_⟩⟩:=v
  refine Wk [] 0 [] Wz

theorem CF l' y' r (h:oK l' y'=some r):Pf 173 [iC aj l',vi y'] (vi r):=by
  unfold oK at h
  refine bC Tryz.func173 fun ctr hc=>?_
  refine bB ?_
  refine mR 34 0 h (sC (sC (sC (sC (sC (sC sB)))))) (EN _) fun v h7=>?_
  refine Wk [] 0 [] Wz

theorem SI l' r (h:oU l'=some r):Pf 174 [lQ aj l'] ((lQ aj r)):=by
  unfold oU at h
  refine bC Tryz.func174 fun ctr hc=>?_
  revert h;refine bE 1 [] 0 [] (Wq ?_);intro h;intros
  refine bq h (ctr+1) [(0,1),(2,17)] [] (fun gG u=>Fa [(0,lQ aj gG)] []) (fun gG uc ug ut ht hu hp h=>?_) (fun f h=>?_)
  · refine Wx [] 0 [] Wz
  · refine Tr.block ?_
    refine dO h (ctr+1) [(0,1),(2,17)] [] (fun zD u1=>Fa [(0,lQ aj zD)] []) bW (fun zD cu fJ fE f ht hu hp h=>?_)
    refine bB ?_
    refine mR 13 0 h (sC (sC sB)) (EN _) fun v h23=>?_
    refine Wk [] 0 [] Wz

theorem aeI m i r (h:Zr m i=some r)   : jc Tryz.prog 407 [.dI 0 0 0,vi i] [.box 0 [Li aj m.fl,Li aj m.JY,vi m.ET,.vec 1 0 1 0 (aj.len m.kU.iY),.vec 2 0 1 0 (aj.len m.kU.lN),.vec 3 0 1 0 (aj.len m.kU.jm),.vec 4 0 3 0 (aj.len m.zU.fl),vi m.Dz,vi m.xM,vi m.Oq],Ri aj 0 (aj.len m.kU.iY) false m.kU.iY,Ri aj 0 (aj.len m.kU.lN) false m.kU.lN,Rb aj 0 (aj.len m.kU.jm) false m.kU.jm,lg aj 0 (aj.len m.zU.fl) false m.zU.fl] [.box 0 [Li aj r.fl,Li aj r.JY,vi r.ET,.vec 1 1 1 0 (aj.len r.kU.iY),.vec 2 1 1 0 (aj.len r.kU.lN),.vec 3 1 1 0 (aj.len r.kU.jm),.vec 4 1 3 0 (aj.len r.zU.fl),vi r.Dz,vi r.xM,vi r.Oq],Ri aj 1 (aj.len r.kU.iY) false r.kU.iY,Ri aj 1 (aj.len r.kU.lN) false r.kU.lN,Rb aj 1 (aj.len r.kU.jm) false r.kU.jm,lg aj 1 (aj.len r.zU.fl) false r.zU.fl] (.gX 0 (fun _=>.junk)):=by
  obtain ⟨_,_,_,⟨_,_,_⟩,⟨q6⟩,_,_,_⟩:=m
  unfold Zr at h
  try dsimp only at h
  refine Il Tryz.func407 (mH Tryz.f407) fun ctr hc=>?_
  refine bB ?_
  refine Wo 13 4 (acY ⟨q6⟩) fun v h1=>?_
  obtain ⟨_,_,_⟩:=v
  refine Wk [] 5 [] Wz

theorem Sr l' base r (h:Cj l' base=some r):Pf 352 [Li aj l',vi base] (Di aj r):=by
  unfold Cj at h
  refine bC Tryz.func352 fun ctr hc=>?_
  refine bB ?_
  refine Wo 9 0 (XC l') fun v5 h25=>?_
  refine Wo 12 0 (CJ v5) fun v6 h26=>?_
  refine Wo 14 0 (IZ base) fun v7 h27=>?_
  refine Wkc 4 [] 0 [] h ctr [(0,1),(3,2),(2,18)] [(0,1),(3,2),(12,1),(1,1),(2,1)] (fun (gG,afD,afE,Xc,o,o1,o2,o3) u=>Fa [(0,Li aj gG),(4,.dI 4 (u.g 4) 0),(5,.dI 5 (u.g 5) 0)] [(0,lg aj (u.g 0) (aj.len o3) (u.t 0) o3),(4,.box (u.g 4) [.cO,.cO,.cO]),(5,.box (u.g 5) [Li aj afD,Li aj afE,vi Xc,.vec 18 (u.g 18) 1 0 (aj.len o),.vec 20 (u.g 20) 1 0 (aj.len o1),.vec 23 (u.g 23) 1 0 (aj.len o2),.vec 0 (u.g 0) 3 0 (aj.len o3),vi 0,vi 0,vi 0]),(18,Ri aj (u.g 18) (aj.len o) (u.t 18) o),(20,Ri aj (u.g 20) (aj.len o1) (u.t 20) o1),(23,Rb aj (u.g 23) (aj.len o2) (u.t 23) o2)]) (fun x uc ug ut ht hu hp h=>?_) (fun f h=>Wz)
  obtain ⟨_,_,_,Xc,_,_,_,o3⟩:=x
  try dsimp only at hp h
  refine bB ?_
  refine IJ 30 (fun r h=>acZ ⟨o3⟩ ⟨Xc,14,false⟩ r h) fun v h7=>?_
  obtain ⟨_⟩:=v
  revert h;refine jI 1 [] 0 [] (Wq ?_);intro h;intros
  refine bq h (uc+1) [(6,2),(23,49)] [(0,1),(4,1),(12,1),(1,1),(2,1)] (fun (agV,agW,agX,ai2,ai3,ai4,o4,o5,o6,o7) u1=>Fa [] [(0,lg aj (u1.g 0) (aj.len o7) (u1.t 0) o7),(5,.box (ug 5) [Li aj agV,Li aj agW,vi agX,.vec 18 (u1.g 18) 1 0 (aj.len o4),.vec 20 (u1.g 20) 1 0 (aj.len o5),.vec 23 (u1.g 23) 1 0 (aj.len o6),.vec 0 (u1.g 0) 3 0 (aj.len o7),vi ai2,vi ai3,vi ai4]),(18,Ri aj (u1.g 18) (aj.len o4) (u1.t 18) o4),(20,Ri aj (u1.g 20) (aj.len o5) (u1.t 20) o5),(23,Rb aj (u1.g 23) (aj.len o6) (u1.t 23) o6)]) (fun x cu fJ fE ht hu hp h=>?_) (fun f h=>?_)
  · obtain ⟨_,_,_,_,_,_,_,_,_,_⟩:=x
    try dsimp only at hp h
    refine Wx [] 0 [] Wz
  · revert h;refine bE 1 [] 0 [] (Wq ?_);intro h;intros
    refine Tr.block ?_
    refine dO h (uc+2) [(6,2),(25,47)] [(0,1),(4,1),(12,1),(1,1),(2,1)] (fun (v1,RF,RG,RH,RI,RJ,RL,o8,o9,Iy,Iz) u2=>Fa [(33,vi v1)] [(0,lg aj (u2.g 0) (aj.len Iz) (u2.t 0) Iz),(5,.box (ug 5) [Li aj RF,Li aj RG,vi RH,.vec 18 (u2.g 18) 1 0 (aj.len o8),.vec 20 (u2.g 20) 1 0 (aj.len o9),.vec 23 (u2.g 23) 1 0 (aj.len Iy),.vec 0 (u2.g 0) 3 0 (aj.len Iz),vi RI,vi RJ,vi RL]),(18,Ri aj (u2.g 18) (aj.len o8) (u2.t 18) o8),(20,Ri aj (u2.g 20) (aj.len o9) (u2.t 20) o9),(23,Rb aj (u2.g 23) (aj.len Iy) (u2.t 23) Iy)]) bW (fun x jB ny mF f ht hu hp h=>?_)
    obtain ⟨v1,RF,RG,RH,RI,RJ,RL,o8,o9,Iy,Iz⟩:=x
    try dsimp only at hp h
    revert h;refine bE 2 [] 0 [] (Wq ?_);intro h;intros
    refine bq h (jB+1) [(6,2),(27,44)] [(0,1),(4,1),(12,1),(1,1),(2,1)] (fun (acK,acL,acM,acN,acO,acP,OW,OX,OY,o15) u3=>Fa [] [(0,lg aj (u3.g 0) (aj.len o15) (u3.t 0) o15),(5,.box (ug 5) [Li aj acK,Li aj acL,vi acM,.vec 18 (u3.g 18) 1 0 (aj.len OW),.vec 20 (u3.g 20) 1 0 (aj.len OX),.vec 23 (u3.g 23) 1 0 (aj.len OY),.vec 0 (u3.g 0) 3 0 (aj.len o15),vi acN,vi acO,vi acP]),(18,Ri aj (u3.g 18) (aj.len OW) (u3.t 18) OW),(20,Ri aj (u3.g 20) (aj.len OX) (u3.t 20) OX),(23,Rb aj (u3.g 23) (aj.len OY) (u3.t 23) OY)]) (fun x nA vN vo ht hu hp h=>?_) (fun f h=>?_)
    · obtain ⟨_,_,_,_,_,_,_,_,_,_⟩:=x
      try dsimp only at hp h
      refine Wx [] 0 [] Wz
    · refine Tr.block ?_
      revert h;refine bE 2 [] 0 [] (Wq ?_);intro h;intros
      refine Tr.block ?_
      refine bq h (jB+3) [(41,5)] [] (fun v2 u4=>Fa [(41,vb v2)] []) (fun v2 sw EM DR ht hu hp h=>?_) (fun f h=>?_)
      · refine yP h rfl (fun _ h=>?_) (fun _ h=>?_)
        · cases h
        · refine bq h sw [(49,4)] [] (fun v3 u5=>Fa [(49,vb v3)] []) (fun v3 GU Pg NK ht hu hp h=>?_) (fun f h=>?_)
          · refine bB ?_
            refine IJ 40 (fun r h=>aeI ⟨RF,RG,RH,⟨o8,o9,Iy⟩,⟨Iz⟩,RI,RJ,RL⟩ v1 r h) fun v4 Ye=>?_
            obtain ⟨_,_,_,⟨_,_,_⟩,⟨_⟩,_,_,_⟩:=v4
            refine Wk [] 0 [] Wz
          · refine Wx [] 0 [] Wz
      · refine Wx [] 0 [] Wz

theorem aju x' r (h:n12 x'=some r) (Hf:Int) (ac0:ah x'.fl=Hf) (l8:Bool):jc Tryz.prog 416 [.agg 7 (fun j=>match j with | 0=>.vec 0 0 1 0 Hf | 1=>Li aj x'.aco | 2=>vi x'.xE | 3=>vi x'.acp | 4=>vi x'.acr | 5=>vi x'.TH | 6=>tF aj x'.Ot | _=>.junk)] [Ri aj 0 Hf l8 x'.fl] [Ri aj 0 Hf l8 r] (.gX 0 (fun _=>.junk)):=by
  obtain rfl:aj.len x'.fl=Hf:=ac0
  obtain ⟨q,_,_,q3,_,_,_⟩:=x'
  unfold n12 at h
  try dsimp only at h
  refine Il Tryz.func416 (mH Tryz.f416) fun ctr hc=>?_
  revert h;refine bE 2 [] 1 [] (Wq ?_);intro h;intros
  refine Tr.block ?_
  refine dO h (ctr+2) [(2,79)] [(0,1)] (fun (i,o) u=>⟨[(2,vi i)],[(0,Ri aj (0) (aj.len q) (l8) o)],fun _=>ah o=(ah q)⟩) bW (fun x uc ug ut f ht hu hp h=>?_)
  obtain ⟨i,o⟩:=x
  try dsimp only at hp h
  revert h;refine bE 1 [] 1 [] (Wq ?_);intro h;intros
  refine Tr.block ?_
  refine bB ?_
  refine Wo 18 0 (I4 (au 0 o (0+i))) fun v h34=>?_
  revert h;refine jI 2 [] 1 [] (Wq ?_);intro h;intros
  refine bq h (uc+3) [(3,1),(18,15)] [] (fun end' u1=>Fa [(3,vi end')] []) (fun end' cu fJ fE ht hu hp h=>?_) (fun f h=>?_)
  · revert h;refine bE 1 [] 1 [] (Wq ?_);intro h;intros
    refine bq h (cu+1) [(4,1),(36,9)] [] (fun uO u2=>Fa [(4,vi uO)] []) (fun uO jB ny mF ht hu hp h=>?_) (fun f h=>?_)
    · refine bq h jB [(5,1),(44,11)] [] (fun _ u3=>Fa [(5,vi q3)] []) (fun x nA vN vo ht hu hp h=>?_) (fun f h=>?_)
      · revert h;refine bE 1 [] 1 [] (Wq ?_);intro h;intros
        refine bq h (nA+1) [(6,1),(56,8)] [] (fun c'1 u4=>Fa [(6,vi c'1)] []) (fun c'1 sw EM DR ht hu hp h=>?_) (fun f h=>?_)
        · refine Tr.block ?_
          refine dO h sw [(2,1),(68,10)] [(0,1)] (fun (i2,o1) u5=>⟨[(2,vi i2)],[(0,Ri aj (0) (aj.len q) (l8) o1)],fun _=>ah o1=(ah q)⟩) bW (fun x GU Pg NK f ht hu hp h=>?_)
          obtain ⟨_,_⟩:=x
          try dsimp only at hp h
          refine Wx [] 1 [] Wz
        · refine Wx [] 1 [] Wz
      · refine Wx [] 1 [] Wz
    · refine bB ?_
      refine Wo 50 0 (XA (au 0 o (0+(i-1)))) fun v1 h53=>?_
      refine Wk [] 1 [] Wz
  · refine Tr.block ?_
    refine dO h (uc+3) [(3,1),(18,15)] [] (fun vK u6=>Fa [(3,vi vK)] []) bW (fun vK Tc u6g ZH f ht hu hp h=>?_)
    refine bB ?_
    refine IK 34 0 (decide (vK < (ah q))) (I4 (au 0 o (0+vK))) false fun v2 h61=>?_
    refine Wk [] 1 [] Wz

theorem yA s r (h:mJ s=some r):Pf 48 [gJ aj s] (nO aj r):=by
  unfold mJ at h
  refine bC Tryz.func48 fun ctr hc=>?_
  refine bB ?_
  refine Wo 12 0 (sJ s.fC) fun v h1=>?_
  refine Wk [] 0 [] Wz

theorem H8 s r (h:tX s=some r):Pf 23 [dF aj s] (oD aj r):=by
  unfold tX at h
  refine bC Tryz.func23 fun ctr hc=>?_
  refine bB ?_
  refine Wo 5 0 (yA s.aR) fun v h1=>?_
  refine Wo 8 0 (yA s.aT) fun v1 h2=>?_
  refine Wo 18 0 (sJ s.aK.x0) fun v2 h3=>?_
  refine Wo 22 0 (sJ s.aK.x1) fun v3 h4=>?_
  refine Wk [] 0 [] Wz

theorem MP a b r (h:oh a b=some r):Pf 133 [jS aj a,jS aj b] (vb r):=by
  obtain ⟨q,_,_,_⟩:=a
  obtain ⟨q4,_,_,_⟩:=b
  unfold oh at h
  try dsimp only at h
  refine bC Tryz.func133 fun ctr hc=>?_
  refine bB ?_
  refine Wo 9 0 (KO q q4) fun v h1=>?_
  refine Wk [] 0 [] Wz

theorem AR a b r (h:lY a b=some r):Pf 87 [iC aj a,iC aj b] (vb r):=by
  unfold lY at h
  refine bC Tryz.func87 fun ctr hc=>?_
  revert h;refine bE 2 [] 0 [] (Wq ?_);intro h;intros
  refine bq h (ctr+2) [(4,2),(5,16)] [] (fun _ u=>Fa [] []) (fun x uc ug ut ht hu hp h=>?_) (fun f h=>?_)
  · refine Wx [] 0 [] Wz
  · revert h;refine bE 1 [] 0 [] (Wq ?_);intro h;intros
    refine Tr.block ?_
    refine dO h (ctr+3) [(4,2),(5,16)] [] (fun i u1=>Fa [(5,vi i)] []) bW (fun i cu fJ fE f ht hu hp h=>?_)
    refine bB ?_
    refine Wi 25 0 h (sT (sC (sC sB))) (MP _ _) fun v h19=>?_
    refine Wk [] 0 [] Wz

end Go.Vx
