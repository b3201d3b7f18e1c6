/- Walks, by program (lift5.py): the code does what the lifted functions say. -/
import Derived.Test.YtmpgicplgjmjkaaGreatDoorTWb1
import Derived.Test.YtmpgicplgjmjkaaGreatDoorTWb2
import Derived.Test.YtmpgicplgjmjkaaGreatDoorTWb3
import Derived.Test.YtmpgicplgjmjkaaGreatDoorTWb4
set_option linter.all false
namespace Go.Vx
open Go.Proofs
set_option maxRecDepth 100000
set_option maxHeartbeats 8000000
set_option linter.unusedVariables false
set_option linter.unusedSimpArgs false
attribute [local irreducible] chk aA au aO oH

theorem Qp s r (h:zD s=some r):Pf 94 [vs s,.fn (.func 95) 0 (λ_=>.junk)] (Us aj r):=by
  unfold zD at h;refine bf Tryz.func94 λctr hc=>?_;revert h;refine bT 3 [] 0 [] (Wq ?_);intro h;intros;refine bR h (ctr+3) [(5,4),(4,22)] [(12,1),(1,1)] (λ(start,spans) u=>Fa [(5,.vec 12 (u.g 12) 2 0 (aj.len spans)),(6,vi start)] [(12,Ku aj (u.g 12) (aj.len spans) (u.t 12) spans)]) (λx uc ug ut ht hu hp h=>?_) (λf h=>?_)
  . obtain⟨_,_⟩:=x;try dsimp only at hp h
    refine bR h uc [(5,1),(29,9)] [(12,1),(30,1)] (λoJ u1=>Fa [(5,.vec 12 (u1.g 12) 2 0 (aj.len oJ))] [(12,Ku aj (u1.g 12) (aj.len oJ) (u1.t 12) oJ)]) (λoJ dQ iN iG ht hu hp h=>?_) (λf h=>?_)
    . revert h;refine bT 1 [] 0 [] (Wq ?_);intro h;intros;refine bR h (dQ+1) [(10,2),(35,17)] [(46,1)] (λa u2=>⟨[],[(46,Rs aj (dQ+0) (aj.len oJ) (u2.t 46) a)],λ_=>ah a=(ah oJ)⟩) (λa lD qW pU ht hu hp h=>?_) (λf h=>?_)
      . try dsimp only at hp h
        refine Wx [] 0 [] Wz
      revert h;refine bT 1 [] 0 [] (Wq ?_);intro h;intros;refine Tr.block ?_;refine gy h (dQ+2) [(10,2),(37,15)] [(11,1),(34,1)] (λ(v,a1) u3=>⟨[(49,vi v)],[(46,Rs aj (dQ+0) (aj.len oJ) (u3.t 46) a1)],λ_=>ah a1=(ah oJ)⟩) dN (λx oV BD zT f ht hu hp h=>?_);obtain⟨_,_⟩:=x;try dsimp only at hp h
      refine Wx [] 0 [] Wz
    refine Wx [42] 0 [] Wz
  revert h;refine bT 1 [] 0 [] (Wq ?_);intro h;intros;refine Tr.block ?_;refine gy h (ctr+4) [(5,4),(6,20)] [(12,1),(1,1),(14,1)] (λ(I4,FR,pos) u4=>Fa [(5,.vec 12 (u4.g 12) 2 0 (aj.len FR)),(6,vi I4)] [(12,Ku aj (u4.g 12) (aj.len FR) (u4.t 12) FR),(14,.iter (ctr+3) s pos)]) dN (λx yN MQ JN f ht hu hp h=>?_);obtain⟨_,_,_⟩:=x;try dsimp only at hp h
  refine aZ ?_;refine Wi 21 0 h (sT sB) (afF _) λv1 h33=>?_;refine Wk [28] 0 [] Wz

theorem DW e r (h:DK e=some r):Pf 46 [vs e] (Us aj r):=by
  unfold DK at h;refine bf Tryz.func46 λctr hc=>?_;refine aZ ?_;refine Wo 4 1 (Qp e) λv h1=>?_;refine Wk [] 0 [] Wz

theorem Gn m r (h:rT m=some r):Pf 73 [w9 aj m] (vb r):=by
  obtain⟨_⟩:=m;unfold rT at h;try dsimp only at h
  refine bf Tryz.func73 λctr hc=>?_;refine aZ ?_;refine Wi 14 0 h (sF sB) (SI _) λv h1=>?_;refine om 19 0 h (sF (sK v sB)) (SI _) λv1 h2=>?_;refine Wk [] 0 [] Wz

theorem tJ m dU n r (h:qV m dU n=some r):Pf 41 [w9 aj m,vb dU,vi n] (vb r):=by
  obtain⟨q⟩:=m;unfold qV at h;try dsimp only at h
  refine bf Tryz.func41 λctr hc=>?_;refine aZ ?_;refine Wi 10 0 h sB (KH _ _) λv h1=>?_;refine Wo 12 0 (Gn ⟨q⟩) λv1 h2=>?_;refine Wk [] 0 [] Wz

theorem X3 b r (h:Ab b=some r):Pf 49 [Lu aj b] (.jO 2 (λj=>match j with|0=>(vi r.1)|1=>(vi r.2)|_=>.junk)):=by
  unfold Ab at h;refine bf Tryz.func49 λctr hc=>?_;refine aZ ?_;refine Wo 12 0 (akn (aB 0 b 0)) λv h2=>?_;obtain⟨_,_,_⟩:=v;revert h;refine kK 4 [] 0 [] (Wq ?_);intro h;intros;refine bR h (ctr+4) [(5,3),(10,27)] [] (λk' u=>Fa [(7,vi k')] []) (λk' uc ug ut ht hu hp h=>?_) (λf h=>?_)
  . refine Wx [] 0 [] Wz
  refine Tr.block ?_;refine gy h (ctr+4) [(5,3),(10,27)] [] (λ(lo1,hi1,Hy) u1=>Fa [(5,vu lo1),(6,vu hi1),(7,vi Hy)] []) dN (λx dQ iN iG f ht hu hp h=>?_);obtain⟨_,_,_⟩:=x;try dsimp only at hp h
  refine Wx [] 0 [] Wz

theorem abA s r (h:J6 s=some r):Pf 33 [TS aj s] (vb r):=by
  obtain⟨q⟩:=s;unfold J6 at h;try dsimp only at h
  refine bf Tryz.func33 λctr hc=>?_;refine aZ ?_;refine Wo 12 0 (X3 q) λv h1=>?_;obtain⟨_,_⟩:=v;refine Wk [] 0 [] Wz

theorem ZC r' r (h:CO r'=some r):Pf 305 [.dX,vr r'] ((Lu aj r)):=by
  unfold CO at h;refine bf Tryz.func305 λctr hc=>?_;refine aZ ?_;refine Wo 15 0 (Ny r') λv h2=>?_;refine Wk [11] 0 [] Wz

theorem ama r' r (h:Uo r'=some r):Pf 204 [vi r'] ((Lu aj r)):=by
  unfold Uo at h;refine bf Tryz.func204 λctr hc=>?_;revert h;refine bT 1 [] 0 [] (Wq ?_);intro h;intros;refine bR h (ctr+1) [(0,1),(2,14)] [] (λQ9 u=>Fa [(0,vi Q9)] []) (λQ9 uc ug ut ht hu hp h=>?_) (λf h=>?_)
  . refine aZ ?_;refine Wi 19 0 h sB (ZC _) λv h1=>?_;refine Wk [] 0 [] Wz
  refine Wx [] 0 [] Wz

theorem ai2 s at' n r (h:MJ s at' n=some r):Pf 226 [nC aj s,vi at',vi n] (vi r):=by
  obtain⟨q,q1⟩:=s;unfold MJ at h;try dsimp only at h
  refine bf Tryz.func226 λctr hc=>?_;refine aZ ?_;refine Wo 10 0 (zF ⟨q,q1⟩) λv h1=>?_;revert h;refine kK 4 [] 0 [] (Wq ?_);intro h;intros;refine bR h (ctr+4) [(1,1),(6,1),(10,15)] [] (λKC u=>Fa [(1,vi KC)] []) (λKC uc ug ut ht hu hp h=>?_) (λf h=>?_)
  . refine Wx [] 0 [] Wz
  revert h;refine bT 1 [] 0 [] (Wq ?_);intro h;intros;refine Tr.block ?_;refine gy h (ctr+5) [(1,1),(6,1),(10,15)] [] (λ(GK,i) u1=>Fa [(1,vi GK),(8,vi i)] []) dN (λx dQ iN iG f ht hu hp h=>?_);obtain⟨GK,_⟩:=x;try dsimp only at hp h
  refine aZ ?_;refine Wo 33 4 (afG GK ⟨q,q1⟩) λv1 h16=>?_;refine Wk [] 0 [] Wz

theorem WY s c' r (h:strings_IndexByte s c'=some r):Pf 57 [vs s,vu c'] (vi r):=by
  unfold strings_IndexByte at h;refine bf Tryz.func57 λctr hc=>?_;refine aZ ?_;refine Wo 7 0 (DX s c') λv h1=>?_;refine Wk [] 0 [] Wz

theorem Vb s u u1 r (h:BR s u u1=some r):Pf 129 [aV aj s,dF aj u,gG aj u1] (aV aj r):=by
  obtain⟨⟨⟨_⟩,⟨_,_,_,_,⟨_,_,_⟩,⟨⟨_,_,_,_⟩,_,_,_⟩⟩,⟨_,_,_,_⟩,⟨_,_⟩,⟨_,_⟩,_,_⟩,⟨⟨_⟩,⟨_,_,_,_,⟨_,_,_⟩,⟨⟨_,_,_,_⟩,_,_,_⟩⟩,⟨_,_,_,_⟩,⟨_,_⟩,⟨_,_⟩,_,_⟩,_,⟨_⟩,⟨⟨_,_,_,_,⟨_,_,_⟩,⟨⟨_,_,_,_⟩,_,_,_⟩⟩,⟨_,_,_,_,⟨_,_,_⟩,⟨⟨_,_,_,_⟩,_,_,_⟩⟩⟩,_,_,_⟩:=s;unfold BR at h;try dsimp only at h
  refine bf Tryz.func129 λctr hc=>?_;refine aZ ?_;refine Wi 8 0 h sB (Jd _) λv h1=>?_;refine Wi 10 0 h (sK v sB) (eD _) λv1 h2=>?_;obtain⟨⟨_⟩,⟨_,_,_,_,⟨_,_,_⟩,⟨⟨_,_,_,_⟩,_,_,_⟩⟩,⟨_,_,_,_⟩,⟨_,_⟩,⟨_,_⟩,_,_⟩:=v1;refine Wk [13] 0 [] Wz

theorem Zg m dU n on r (h:He m dU n on=some r):Pf 259 [w9 aj m,vb dU,vi n,vb on] (w9 aj r):=by
  obtain⟨q⟩:=m;unfold He at h;try dsimp only at h
  refine bf Tryz.func259 λctr hc=>?_;refine aZ ?_;refine Wo 13 0 (Gn ⟨q⟩) λv h1=>?_;refine Wo 15 0 (Qb) λv1 h2=>?_;refine Wo 18 0 (KH dU n) λv2 h3=>?_;refine Wk [] 0 [] Wz

theorem aob m i r (h:aiH m i=some r)   : lK Tryz.prog 418 [.fq 0 0 0,vi i] [.box 0 [Li aj m.fl,Li aj m.Uy,vi m.Oh,.vec 1 0 1 0 (aj.len m.pz.lI),.vec 2 0 1 0 (aj.len m.pz.ql),.vec 3 0 1 0 (aj.len m.pz.l5),.vec 4 0 3 0 (aj.len m.Iz.fl),vi m.MN,vi m.FI,vi m.YD],Ri aj 0 (aj.len m.pz.lI) false m.pz.lI,Ri aj 0 (aj.len m.pz.ql) false m.pz.ql,Rb aj 0 (aj.len m.pz.l5) false m.pz.l5,pK aj 0 (aj.len m.Iz.fl) false m.Iz.fl] [.box 0 [Li aj r.fl,Li aj r.Uy,vi r.Oh,.vec 1 1 1 0 (aj.len r.pz.lI),.vec 2 1 1 0 (aj.len r.pz.ql),.vec 3 1 1 0 (aj.len r.pz.l5),.vec 4 1 3 0 (aj.len r.Iz.fl),vi r.MN,vi r.FI,vi r.YD],Ri aj 1 (aj.len r.pz.lI) false r.pz.lI,Ri aj 1 (aj.len r.pz.ql) false r.pz.ql,Rb aj 1 (aj.len r.pz.l5) false r.pz.l5,pK aj 1 (aj.len r.Iz.fl) false r.Iz.fl] (.jO 0 (λ_=>.junk)):=by
  obtain⟨_,_,_,⟨_,_,_⟩,⟨q6⟩,_,_,_⟩:=m;unfold aiH at h;try dsimp only at h
  refine QX Tryz.func418 (tC Tryz.f418) λctr hc=>?_;refine aZ ?_;refine Wo 13 4 (amg ⟨q6⟩) λv h1=>?_;obtain⟨_,_,_⟩:=v;refine Wk [] 5 [] Wz

theorem aaZ l' base r (h:KE l' base=some r):Pf 383 [Li aj l',vi base] (LA aj r):=by
  unfold KE at h;refine bf Tryz.func383 λctr hc=>?_;refine aZ ?_;refine Wo 9 0 (afK l') λv5 h25=>?_;refine Wo 12 0 (KO v5) λv6 h26=>?_;refine Wo 14 0 (SN base) λv7 h27=>?_;refine Wkc 4 [] 0 [] h ctr [(0,1),(3,2),(2,18)] [(0,1),(3,2),(12,1),(1,1),(2,1)] (λ(iE,Wl,apz,afi,o,o1,o2,o3) u=>Fa [(0,Li aj iE),(4,.fq 4 (u.g 4) 0),(5,.fq 5 (u.g 5) 0)] [(0,pK aj (u.g 0) (aj.len o3) (u.t 0) o3),(4,.box (u.g 4) [.dX,.dX,.dX]),(5,.box (u.g 5) [Li aj Wl,Li aj apz,vi afi,.vec 18 (u.g 18) 1 0 (aj.len o),.vec 20 (u.g 20) 1 0 (aj.len o1),.vec 23 (u.g 23) 1 0 (aj.len o2),.vec 0 (u.g 0) 3 0 (aj.len o3),vi 0,vi 0,vi 0]),(18,Ri aj (u.g 18) (aj.len o) (u.t 18) o),(20,Ri aj (u.g 20) (aj.len o1) (u.t 20) o1),(23,Rb aj (u.g 23) (aj.len o2) (u.t 23) o2)]) (λx uc ug ut ht hu hp h=>?_) (λf h=>Wz);obtain⟨_,_,_,afi,_,_,_,o3⟩:=x;try dsimp only at hp h
  refine aZ ?_;refine DV 30 (λr h=>amd ⟨o3⟩ ⟨afi,14,false⟩ r h) λv h7=>?_;obtain⟨_⟩:=v;revert h;refine kK 1 [] 0 [] (Wq ?_);intro h;intros;refine bR h (uc+1) [(6,2),(23,49)] [(0,1),(4,1),(12,1),(1,1),(2,1)] (λ(aqM,aqN,aqO,at7,aua,aub,o4,o5,o6,o7) u1=>Fa [] [(0,pK aj (u1.g 0) (aj.len o7) (u1.t 0) o7),(5,.box (ug 5) [Li aj aqM,Li aj aqN,vi aqO,.vec 18 (u1.g 18) 1 0 (aj.len o4),.vec 20 (u1.g 20) 1 0 (aj.len o5),.vec 23 (u1.g 23) 1 0 (aj.len o6),.vec 0 (u1.g 0) 3 0 (aj.len o7),vi at7,vi aua,vi aub]),(18,Ri aj (u1.g 18) (aj.len o4) (u1.t 18) o4),(20,Ri aj (u1.g 20) (aj.len o5) (u1.t 20) o5),(23,Rb aj (u1.g 23) (aj.len o6) (u1.t 23) o6)]) (λx dQ iN iG ht hu hp h=>?_) (λf h=>?_)
  . obtain⟨_,_,_,_,_,_,_,_,_,_⟩:=x;try dsimp only at hp h
    refine Wx [] 0 [] Wz
  revert h;refine bT 1 [] 0 [] (Wq ?_);intro h;intros;refine Tr.block ?_;refine gy h (uc+2) [(6,2),(25,47)] [(0,1),(4,1),(12,1),(1,1),(2,1)] (λ(v1,aaA,aaB,aaC,aaD,aaE,aaF,o8,o9,Rh,Rj) u2=>Fa [(33,vi v1)] [(0,pK aj (u2.g 0) (aj.len Rj) (u2.t 0) Rj),(5,.box (ug 5) [Li aj aaA,Li aj aaB,vi aaC,.vec 18 (u2.g 18) 1 0 (aj.len o8),.vec 20 (u2.g 20) 1 0 (aj.len o9),.vec 23 (u2.g 23) 1 0 (aj.len Rh),.vec 0 (u2.g 0) 3 0 (aj.len Rj),vi aaD,vi aaE,vi aaF]),(18,Ri aj (u2.g 18) (aj.len o8) (u2.t 18) o8),(20,Ri aj (u2.g 20) (aj.len o9) (u2.t 20) o9),(23,Rb aj (u2.g 23) (aj.len Rh) (u2.t 23) Rh)]) dN (λx lD qW pU f ht hu hp h=>?_);obtain⟨v1,aaA,aaB,aaC,aaD,aaE,aaF,o8,o9,Rh,Rj⟩:=x;try dsimp only at hp h
  revert h;refine bT 2 [] 0 [] (Wq ?_);intro h;intros;refine bR h (lD+1) [(6,2),(27,44)] [(0,1),(4,1),(12,1),(1,1),(2,1)] (λ(al2,al3,al4,al5,al6,al7,YZ,Y0,Y1,o15) u3=>Fa [] [(0,pK aj (u3.g 0) (aj.len o15) (u3.t 0) o15),(5,.box (ug 5) [Li aj al2,Li aj al3,vi al4,.vec 18 (u3.g 18) 1 0 (aj.len YZ),.vec 20 (u3.g 20) 1 0 (aj.len Y0),.vec 23 (u3.g 23) 1 0 (aj.len Y1),.vec 0 (u3.g 0) 3 0 (aj.len o15),vi al5,vi al6,vi al7]),(18,Ri aj (u3.g 18) (aj.len YZ) (u3.t 18) YZ),(20,Ri aj (u3.g 20) (aj.len Y0) (u3.t 20) Y0),(23,Rb aj (u3.g 23) (aj.len Y1) (u3.t 23) Y1)]) (λx oV BD zT ht hu hp h=>?_) (λf h=>?_)
  . obtain⟨_,_,_,_,_,_,_,_,_,_⟩:=x;try dsimp only at hp h
    refine Wx [] 0 [] Wz
  refine Tr.block ?_;revert h;refine bT 2 [] 0 [] (Wq ?_);intro h;intros;refine Tr.block ?_;refine bR h (lD+3) [(41,5)] [] (λv2 u4=>Fa [(41,vb v2)] []) (λv2 yN MQ JN ht hu hp h=>?_) (λf h=>?_)
  . refine uY h rfl (λ_ h=>?_) (λ_ h=>?_)
    . cases h
    refine bR h yN [(49,4)] [] (λv3 u5=>Fa [(49,vb v3)] []) (λv3 NK XU UN ht hu hp h=>?_) (λf h=>?_)
    . refine aZ ?_;refine DV 40 (λr h=>aob ⟨aaA,aaB,aaC,⟨o8,o9,Rh⟩,⟨Rj⟩,aaD,aaE,aaF⟩ v1 r h) λv4 h24=>?_;obtain⟨_,_,_,⟨_,_,_⟩,⟨_⟩,_,_,_⟩:=v4;refine Wk [] 0 [] Wz
    refine Wx [] 0 [] Wz
  refine Wx [] 0 [] Wz

theorem Zl l' r' base r (h:Ja l' r' base=some r):Pf 384 [Li aj l',LA aj r',vi base] (.own 1 (aj.len r) false (λix jx=>(.sl 1 (aj.len (aj.get [] r ix)) false (λlW zS=>(vi (aj.get 0 (aj.get [] r ix) lW)))))):=by
  unfold Ja at h;refine bf Tryz.func384 λctr hc=>?_;refine aZ ?_;refine Wo 25 0 (X0 l' r') λv h1=>?_;refine Wo 28 1 (KO l') λv1 h2=>?_;refine Wo 30 1 (ahg r') λv2 h3=>?_;revert h;refine kK 5 [] 0 [] (Wq ?_);intro h;intros;refine bR h (ctr+5) [(10,1),(24,9)] [(34,1)] (λheads u=>⟨[],[(34,Ri aj (ctr+4) ((std Tryz.prog).add (aj.len l') 1) (u.t 34) heads)],λ_=>ah heads=((ah l')+1)⟩) (λheads uc ug ut ht hu hp h=>?_) (λf h=>?_)
  . try dsimp only at hp h
    refine bR h uc [(11,2),(31,14)] [(34,1)] (λadJ u1=>⟨[],[(34,Ri aj (ctr+4) ((std Tryz.prog).add (aj.len l') 1) (u1.t 34) adJ)],λ_=>ah adJ=((ah l')+1)⟩) (λadJ dQ iN iG ht hu hp h=>?_) (λf h=>?_)
    . try dsimp only at hp h
      revert h;refine bT 2 [] 0 [] (Wq ?_);intro h;intros;refine bR h (dQ+2) [(15,4),(45,39)] [(60,1),(2,1)] (λbehind u2=>⟨[],[(60,Ri aj (dQ+0) (aj.len v2) (u2.t 60) behind),(63,Rb aj (dQ+1) (aj.len v2) (u2.t 63) (aj.rep (aj.len v2) false))],λ_=>ah behind=(ah v2)⟩) (λbehind lD qW pU ht hu hp h=>?_) (λf h=>?_)
      . try dsimp only at hp h
        revert h;refine bT 1 [] 0 [] (Wq ?_);intro h;intros;refine bR h (lD+1) [(19,4),(80,27)] [(128,1)] (λout u3=>Fa [(19,.vec 128 (u3.g 128) 1 0 (aj.len out))] [(128,.arr (u3.g 128) 1 (aj.len out) (u3.t 128) (λix jx=>(.sl 1 (aj.len (aj.get [] out ix)) false (λlW zS=>(vi (aj.get 0 (aj.get [] out ix) lW))))))]) (λout oV BD zT ht hu hp h=>?_) (λf h=>?_)
        . refine Wx [] 0 [] Wz
        revert h;refine bT 1 [] 0 [] (Wq ?_);intro h;intros;refine Tr.block ?_;refine gy h (lD+2) [(19,4),(82,25)] [(128,1)] (λ(v3,aX) u4=>Fa [(19,.vec 128 (u4.g 128) 1 0 (aj.len aX)),(105,vi v3)] [(128,.arr (u4.g 128) 1 (aj.len aX) (u4.t 128) (λix jx=>(.sl 1 (aj.len (aj.get [] aX ix)) false (λlW zS=>(vi (aj.get 0 (aj.get [] aX ix) lW))))))]) dN (λx yN MQ JN f ht hu hp h=>?_);obtain⟨_,_⟩:=x;try dsimp only at hp h
        revert h;refine bT 2 [] 0 [] (Wq ?_);intro h;intros;refine bR h (yN+1) [(19,4),(84,22)] [(128,1)] (λl9 u5=>Fa [(19,.vec 128 (u5.g 128) 1 0 (aj.len l9))] [(128,.arr (u5.g 128) 1 (aj.len l9) (u5.t 128) (λix jx=>(.sl 1 (aj.len (aj.get [] l9 ix)) false (λlW zS=>(vi (aj.get 0 (aj.get [] l9 ix) lW))))))]) (λl9 NK XU UN ht hu hp h=>?_) (λf h=>?_)
        . refine Wx [] 0 [] Wz
        refine Tr.block ?_;revert h;refine bT 3 [] 0 [] (Wq ?_);intro h;intros;refine bR h (yN+4) [(21,2),(89,13)] [(124,1)] (λseq u6=>Fa [(21,.vec 124 (u6.g 124) 1 0 (aj.len seq))] [(124,Ri aj (u6.g 124) (aj.len seq) (u6.t 124) seq)]) (λseq Zf u6g u6t ht hu hp h=>?_) (λf h=>?_)
        . refine Wx [127] 0 [(39,[.freeze (.slot 21)])] Wz
        revert h;refine bT 1 [] 0 [] (Wq ?_);intro h;intros;refine Tr.block ?_;refine gy h (yN+5) [(21,2),(90,12)] [(124,1)] (λ(at',seq1) u7=>Fa [(21,.vec 124 (u7.g 124) 1 0 (aj.len seq1)),(22,vi at')] [(124,Ri aj (u7.g 124) (aj.len seq1) (u7.t 124) seq1)]) dN (λx u7c u7g u7t f ht hu hp h=>?_);obtain⟨_,_⟩:=x;try dsimp only at hp h
        refine Wx [] 0 [] Wz
      revert h;refine bT 1 [] 0 [] (Wq ?_);intro h;intros;refine Tr.block ?_;refine gy h (dQ+3) [(15,4),(47,37)] [(60,1),(2,1)] (λ(v4,UH) u8=>⟨[(66,vi v4)],[(60,Ri aj (dQ+0) (aj.len v2) (u8.t 60) UH),(63,Rb aj (dQ+1) (aj.len v2) (u8.t 63) (aj.rep (aj.len v2) false))],λ_=>ah UH=(ah v2)⟩) dN (λx u8c u8g u8t f ht hu hp h=>?_);obtain⟨_,_⟩:=x;try dsimp only at hp h
      refine aZ ?_;refine Wi 84 0 h (sT (sC (sC (sC (sC (sC sB)))))) (Qo _) λv5 azf=>?_;refine Wk [] 0 [] Wz
    revert h;refine bT 1 [] 0 [] (Wq ?_);intro h;intros;refine Tr.block ?_;refine gy h (uc+1) [(11,2),(33,12)] [(34,1)] (λ(v6,Y3) u9=>⟨[(46,vi v6)],[(34,Ri aj (ctr+4) ((std Tryz.prog).add (aj.len l') 1) (u9.t 34) Y3)],λ_=>ah Y3=((ah l')+1)⟩) dN (λx u9c u9g u9t f ht hu hp h=>?_);obtain⟨_,_⟩:=x;try dsimp only at hp h
    refine Wx [] 0 [] Wz
  revert h;refine bT 1 [] 0 [] (Wq ?_);intro h;intros;refine Tr.block ?_;refine gy h (ctr+6) [(10,1),(26,7)] [(34,1)] (λ(v7,Y2) u10=>⟨[(37,vi v7)],[(34,Ri aj (ctr+4) ((std Tryz.prog).add (aj.len l') 1) (u10.t 34) Y2)],λ_=>ah Y2=((ah l')+1)⟩) dN (λx apG aur aus f ht hu hp h=>?_);obtain⟨_,_⟩:=x;try dsimp only at hp h
  refine Wx [] 0 [] Wz

theorem afs l' r' base seq r (h:Ub l' r' base seq=some r):Pf 386 [Li aj l',LA aj r',vi base,Li aj seq] (.jO 2 (λj=>match j with|0=>(vi r.1)|1=>(vi r.2)|_=>.junk)):=by
  obtain⟨_,_,_⟩:=r';unfold Ub at h;try dsimp only at h
  refine bf Tryz.func386 λctr hc=>?_;refine aZ ?_;refine Wi 21 0 h sB (X0 _ _) λv h1=>?_;revert h;refine kK 2 [] 0 [] (Wq ?_);intro h;intros;refine bR h (ctr+2) [(8,2),(1,1),(16,15)] [] (λ_ u=>Fa [] []) (λx uc ug ut ht hu hp h=>?_) (λf h=>?_)
  . refine aZ ?_;refine Wo 53 0 (SN base) λv1 h9=>?_;refine Wod 55 0 h9 ?_;revert h;refine kK 2 [] 0 [] (Wq ?_);intro h;intros;refine bR h (uc+2) [(14,1),(1,1),(39,17)] [] (λ_ u1=>Fa [(14,vi v1)] []) (λx dQ iN iG ht hu hp h=>?_) (λf h=>?_)
    . refine bR h dQ [(15,1),(1,1),(55,35)] [] (λ_ u2=>Fa [(15,vi v1)] []) (λx lD qW pU ht hu hp h=>?_) (λf h=>?_)
      . refine aZ ?_;refine Wi 116 0 h (sC sB) (ahh _) λv2 h17=>?_;refine Wod 120 0 h17 ?_;refine Wk [] 0 [] Wz
      refine aZ ?_;refine Wi 77 0 h (sC sB) (Qo _) λv3 h19=>?_;refine uh 81 0 (!(!v3)) (KO l') [] λv4 h20=>?_;revert h;refine kK 1 [] 0 [] (Wq ?_);intro h;intros;refine uY h rfl (λ_ h=>?_) (λ_ h=>?_)
      . revert h;refine bT 1 [] 0 [] (Wq ?_);intro h;intros;refine Tr.block ?_;refine gy h (dQ+2) [(15,1),(1,1),(73,17)] [] (λ_ u3=>Fa [(15,vi v1),(17,vi ((std Tryz.prog).add (aj.get 0 seq ((std Tryz.prog).sub (aj.len seq) 1)) 1))] []) dN (λx oV BD zT f ht hu hp h=>?_);refine Wx [] 0 [] Wz
      refine Wx [] 0 [] Wz
    revert h;refine bT 1 [] 0 [] (Wq ?_);intro h;intros;refine Tr.block ?_;refine gy h (uc+3) [(14,1),(1,1),(41,15)] [] (λ_ u4=>Fa [(14,vi v1),(16,vi ((std Tryz.prog).sub (aj.get 0 seq 0) 1))] []) dN (λx yN MQ JN f ht hu hp h=>?_);refine Wx [] 0 [] Wz
  revert h;refine bT 1 [] 0 [] (Wq ?_);intro h;intros;refine Tr.block ?_;refine gy h (ctr+3) [(8,2),(1,1),(18,13)] [] (λv5 u5=>Fa [(30,vi v5)] []) dN (λv5 NK XU UN f ht hu hp h=>?_);refine Wx [] 0 [] Wz

theorem W9 a b r (h:uL a b=some r):Pf 272 [gH aj a,gH aj b] (vb r):=by
  obtain⟨q,_,_,_⟩:=a;obtain⟨q4,_,_,_⟩:=b;unfold uL at h;try dsimp only at h
  refine bf Tryz.func272 λctr hc=>?_;refine aZ ?_;refine Wo 9 0 (Vf q q4) λv h1=>?_;refine Wk [] 0 [] Wz

theorem Je a b r (h:qK a b=some r):Pf 172 [lX aj a,lX aj b] (vb r):=by
  unfold qK at h;refine bf Tryz.func172 λctr hc=>?_;revert h;refine bT 2 [] 0 [] (Wq ?_);intro h;intros;refine bR h (ctr+2) [(4,2),(5,16)] [] (λ_ u=>Fa [] []) (λx uc ug ut ht hu hp h=>?_) (λf h=>?_)
  . refine Wx [] 0 [] Wz
  revert h;refine bT 1 [] 0 [] (Wq ?_);intro h;intros;refine Tr.block ?_;refine gy h (ctr+3) [(4,2),(5,16)] [] (λi u1=>Fa [(5,vi i)] []) dN (λi dQ iN iG f ht hu hp h=>?_);refine aZ ?_;refine Wi 25 0 h (sT (sC (sC sB))) (W9 _ _) λv h19=>?_;refine Wk [] 0 [] Wz

end Go.Vx
