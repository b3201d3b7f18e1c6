/- Walks, by program (lift5.py): the code does what the lifted functions say. -/
import Derived.Test.YtmpgicplgjmjkaaGreatDoorTWb9
import Derived.Test.YtmpgicplgjmjkaaGreatDoorTWb10
import Derived.Test.YtmpgicplgjmjkaaGreatDoorTWb12
set_option linter.all false
namespace Go.Vx
open Go.Proofs
set_option maxRecDepth 100000
set_option maxHeartbeats 8000000
set_option linter.unusedVariables false
set_option linter.unusedSimpArgs false
attribute [local irreducible] chk aA au aO oH

theorem jo s r (h:jg s=some r):Pf 72 [aS aj s] (vb r):=by
  obtain⟨⟨q⟩,⟨_,_,_,_,⟨_,_,_⟩,⟨⟨_,_,_,_⟩,_,_,_⟩⟩,⟨_,_,_,_⟩,⟨_,_⟩,⟨Df,q22⟩,_,_⟩:=s;unfold jg at h;try dsimp only at h
  refine bf Tryz.func72 λctr hc=>?_;refine aZ ?_;refine Wi 17 0 h (sF sB) (pO _ _) λv h1=>?_;refine om 22 0 h (sF (sK v sB)) (zF _) λv1 h2=>?_;refine Wo 37 0 (ai1 ⟨q⟩) λv2 h3=>?_;obtain⟨_,_⟩:=v2;refine Wo 54 0 (Ji ⟨Df,q22⟩) λv3 h4=>?_;refine Wk [] 0 [] Wz

theorem KJ s r (h:rR s=some r):Pf 35 [aV aj s] (vb r):=by
  obtain⟨⟨⟨_⟩,⟨_,_,_,_,⟨_,_,_⟩,⟨⟨_,_,_,_⟩,_,_,_⟩⟩,⟨zG,q16,yO,wO⟩,⟨_,_⟩,⟨_,_⟩,_,_⟩,⟨⟨_⟩,⟨_,_,_,_,⟨_,_,_⟩,⟨⟨_,_,_,_⟩,_,_,_⟩⟩,⟨NN,NP,NQ,NR⟩,⟨_,_⟩,⟨_,_⟩,_,_⟩,_,⟨_⟩,⟨⟨_,_,_,_,⟨_,_,_⟩,⟨⟨_,_,_,_⟩,_,_,_⟩⟩,⟨_,_,_,_,⟨_,_,_⟩,⟨⟨_,_,_,_⟩,_,_,_⟩⟩⟩,_,_,_⟩:=s;unfold rR at h;try dsimp only at h
  refine bf Tryz.func35 λctr hc=>?_;refine aZ ?_;refine Wi 8 0 h sB (jo _) λv h1=>?_;refine om 13 0 h (sK v sB) (jo _) λv1 h2=>?_;refine om 19 0 h (sK v (sK v1 sB)) (Gn _) λv2 h3=>?_;refine Wo 25 0 (Jj ⟨zG,q16,yO,wO⟩) λv3 h4=>?_;obtain⟨_,_,_,_⟩:=v3;refine Wo 30 0 (Jj ⟨NN,NP,NQ,NR⟩) λv4 h5=>?_;obtain⟨_,_,_,_⟩:=v4;revert h;refine kK 4 [] 0 [] (Wq ?_);intro h;intros;refine bR h (ctr+4) [(2,1),(2,1),(26,10)] [] (λ_ u=>Fa [] []) (λx uc ug ut ht hu hp h=>?_) (λf h=>?_)
  . refine Wx [] 0 [] Wz
  revert h;refine bT 1 [] 0 [] (Wq ?_);intro h;intros;refine Tr.block ?_;refine Tr.rounds 3 ?_;refine kX h (ctr+5) [(2,1),(2,1),(28,8)] [(5,1)] (λ_ u1=>Fa [(34,vi 1)] []) (λx dQ iN iG ht hu hp h=>?_) (λf h=>?_)
  . refine kX h dQ [(2,1),(2,1),(28,8)] [(5,1)] (λ_ u2=>Fa [(34,vi 2)] []) (λx lD qW pU ht hu hp h=>?_) (λf h=>?_)
    . refine Wx [] 0 [] Wz
    refine aZ ?_;refine Wi 39 0 h sB (pO _ _) λv5 Yr=>?_;refine Wk [] 0 [] Wz
  refine aZ ?_;refine Wi 39 0 h sB (pO _ _) λv6 h16=>?_;refine Wk [] 0 [] Wz

theorem qD t' r (h:nY t'=some r):Pf 12 [jK aj t'] (vb r):=by
  obtain⟨⟨q⟩,⟨_,_,_,⟨_,_⟩,_,_⟩,⟨⟨⟨_⟩,⟨_,_,_,_,⟨_,_,_⟩,⟨⟨_,_,_,_⟩,_,_,_⟩⟩,⟨_,_,_,_⟩,⟨_,_⟩,⟨_,_⟩,_,_⟩,⟨⟨_⟩,⟨_,_,_,_,⟨_,_,_⟩,⟨⟨_,_,_,_⟩,_,_,_⟩⟩,⟨_,_,_,_⟩,⟨_,_⟩,⟨_,_⟩,_,_⟩,_,⟨_⟩,⟨⟨_,_,_,_,⟨_,_,_⟩,⟨⟨_,_,_,_⟩,_,_,_⟩⟩,⟨_,_,_,_,⟨_,_,_⟩,⟨⟨_,_,_,_⟩,_,_,_⟩⟩⟩,_,_,_⟩,_⟩:=t';unfold nY at h;try dsimp only at h
  refine bf Tryz.func12 λctr hc=>?_;refine aZ ?_;refine Wo 5 0 (abA ⟨q⟩) λv h1=>?_;refine om 10 0 h (sK v sB) (Nr _) λv1 h2=>?_;refine om 16 0 h (sK v (sK v1 sB)) (KJ _) λv2 h3=>?_;refine om 26 0 h (sK v (sK v1 (sK v2 (sF sB)))) (Qe _) λv3 h4=>?_;obtain⟨_,_⟩:=v3;refine Wk [] 0 [] Wz

theorem XY g' top bottom p' r (h:Ed g' top bottom p'=some r):Pf 323 [kW aj g',vi top,vi bottom,jN aj p'] (vb r):=by
  obtain⟨q⟩:=g';unfold Ed at h;try dsimp only at h
  refine bf Tryz.func323 λctr hc=>?_;refine aZ ?_;refine Wo 11 0 (U2 ⟨q⟩ p') λv h1=>?_;refine Wk [] 0 [] Wz

theorem ad2 g' top bottom n p' r (h:OO g' top bottom n p'=some r):Pf 248 [kW aj g',vi top,vi bottom,vi n,jN aj p'] (.jO 2 (λj=>match j with|0=>(kW aj r.1)|1=>(lX aj r.2)|_=>.junk)):=by
  obtain⟨q⟩:=g';unfold OO at h;try dsimp only at h
  refine bf Tryz.func248 λctr hc=>?_;refine aZ ?_;refine Wi 20 0 h sB (XY _ _ _ _) λv h1=>?_;refine Wo 30 1 (Jk ⟨q⟩) λv1 h3=>?_;revert h;refine kK 5 [] 0 [] (Wq ?_);intro h;intros;refine bR h (ctr+5) [(13,2),(16,15)] [(44,1)] (λgone u=>Fa [(13,.vec 44 (u.g 44) 4 0 (aj.len gone))] [(44,kT aj (u.g 44) (aj.len gone) (u.t 44) gone)]) (λgone uc ug ut ht hu hp h=>?_) (λf h=>?_)
  . refine bR h uc [(15,1),(30,23)] [(30,1)] (λl' u1=>⟨[],[(30,kT aj (ctr+3) (aj.len v1) (u1.t 30) l')],λ_=>ah l'=(ah v1)⟩) (λl' dQ iN iG ht hu hp h=>?_) (λf h=>?_)
    . try dsimp only at hp h
      refine aZ ?_;refine DV 82 (λr h=>LM l' (0+(bottom-(aY 0 (aP n (bottom-top))))) (bottom-(bottom-(aY 0 (aP n (bottom-top))))) (ah (aB aH q 0).aN) p' r h ((aj.len v1)) Wy (iG 30)) λv2 h29=>?_;refine Wk [] 0 [] Wz
    revert h;refine bT 1 [] 0 [] (Wq ?_);intro h;intros;refine Tr.block ?_;refine gy h (uc+1) [(15,1),(35,18)] [(30,1)] (λ(v3,iE) u2=>⟨[(51,vi v3)],[(30,kT aj (ctr+3) (aj.len v1) (u2.t 30) iE)],λ_=>ah iE=(ah v1)⟩) dN (λx lD qW pU f ht hu hp h=>?_);obtain⟨_,_⟩:=x;try dsimp only at hp h
    refine Wx [] 0 [] Wz
  revert h;refine bT 1 [] 0 [] (Wq ?_);intro h;intros;refine Tr.block ?_;refine gy h (ctr+6) [(13,2),(17,14)] [(44,1)] (λ(v4,Wn) u3=>Fa [(13,.vec 44 (u3.g 44) 4 0 (aj.len Wn)),(32,vi v4)] [(44,kT aj (u3.g 44) (aj.len Wn) (u3.t 44) Wn)]) dN (λx oV BD zT f ht hu hp h=>?_);obtain⟨_,_⟩:=x;try dsimp only at hp h
  refine Wx [43] 0 [] Wz

theorem Zr s n r (h:G9 s n=some r):Pf 253 [aS aj s,vi n] (aS aj r):=by
  obtain⟨⟨q⟩,⟨_,_,_,_,⟨_,_,_⟩,⟨⟨_,_,_,_⟩,_,_,_⟩⟩,⟨_,_,yO,wO⟩,⟨_,_⟩,⟨Df,q22⟩,_,_⟩:=s;unfold G9 at h;try dsimp only at h
  refine bf Tryz.func253 λctr hc=>?_;refine aZ ?_;refine Wi 18 0 h sB (ko _) λv h1=>?_;refine Wo 19 0 (ad2 ⟨q⟩ yO wO n v) λv1 h2=>?_;obtain⟨⟨_⟩,JR⟩:=v1;refine Wo 31 0 (ad3 ⟨Df,q22⟩ JR) λv2 h3=>?_;refine Wk [] 0 [] Wz

theorem Ns s n r (h:Ag s n=some r):Pf 117 [aS aj s,vi n] (aS aj r):=by
  unfold Ag at h;refine bf Tryz.func117 λctr hc=>?_;refine aZ ?_;refine Wo 6 0 (jo s) λv h1=>?_;refine Wo 28 0 (ai2 s.fT s.fC.fX n) λv1 h2=>?_;refine Wo 39 0 (Zt s.fT s.fC.fX 9223372036854775807) λv2 h3=>?_;refine Wo 16 0 (Zt s.fT s.fC.fX (0-n)) λv3 h5=>?_;refine Wk [] 0 [] Wz

theorem WR x' u r (h:uJ x' u=some r):Pf 116 [aS aj x',vi u] (aS aj r):=by
  unfold uJ at h;refine bf Tryz.func116 λctr hc=>?_;refine aZ ?_;refine Wo 6 0 (Ns x' 1) λv h1=>?_;refine Wk [] 0 [] Wz

theorem Qf g' top bottom n p' r (h:Dw g' top bottom n p'=some r):Pf 247 [kW aj g',vi top,vi bottom,vi n,jN aj p'] (kW aj r):=by
  obtain⟨q⟩:=g';unfold Dw at h;try dsimp only at h
  refine bf Tryz.func247 λctr hc=>?_;refine aZ ?_;refine Wi 17 0 h sB (XY _ _ _ _) λv h1=>?_;refine Wo 27 1 (Jk ⟨q⟩) λv1 h3=>?_;revert h;refine kK 4 [] 0 [] (Wq ?_);intro h;intros;refine bR h (ctr+4) [(12,1),(15,23)] [(27,1)] (λl' u=>⟨[],[(27,kT aj (ctr+3) (aj.len v1) (u.t 27) l')],λ_=>ah l'=(ah v1)⟩) (λl' uc ug ut ht hu hp h=>?_) (λf h=>?_)
  . try dsimp only at hp h
    refine aZ ?_;refine DV 64 (λr h=>LM l' (0+top) ((top+(aY 0 (aP n (bottom-top))))-top) (ah (aB aH q 0).aN) p' r h ((aj.len v1)) Wy (ut 27)) λv2 h21=>?_;refine Wk [] 0 [] Wz
  revert h;refine bT 1 [] 0 [] (Wq ?_);intro h;intros;refine Tr.block ?_;refine gy h (ctr+5) [(12,1),(20,18)] [(27,1)] (λ(v3,iE) u1=>⟨[(33,vi v3)],[(27,kT aj (ctr+3) (aj.len v1) (u1.t 27) iE)],λ_=>ah iE=(ah v1)⟩) dN (λx dQ iN iG f ht hu hp h=>?_);obtain⟨_,_⟩:=x;try dsimp only at hp h
  refine Wx [] 0 [] Wz

theorem ai3 s r (h:MK s=some r):Pf 233 [aS aj s] (aS aj r):=by
  obtain⟨⟨q⟩,⟨_,_,_,_,⟨_,_,_⟩,⟨⟨_,_,_,_⟩,_,_,_⟩⟩,⟨_,_,yO,wO⟩,⟨_,_⟩,⟨_,_⟩,_,_⟩:=s;unfold MK at h;try dsimp only at h
  refine bf Tryz.func233 λctr hc=>?_;refine aZ ?_;refine Wi 4 0 h sB (jo _) λv h1=>?_;refine Wi 25 0 h (sK v (sF (sT sB))) (ko _) λv1 h2=>?_;refine Wo 26 0 (Qf ⟨q⟩ yO wO 1 v1) λv2 h3=>?_;refine Wk [] 0 [] Wz

theorem U3 x' n r (h:sI x' n=some r):Pf 140 [aS aj x',vi n] (aS aj r):=by
  unfold sI at h;refine bf Tryz.func140 λctr hc=>?_;refine aZ ?_;refine Wo 8 0 (Ns x' (0-n)) λv h2=>?_;refine Wk [] 0 [] Wz

theorem WS s n r (h:uP s n=some r):Pf 144 [aS aj s,vi n] (aS aj r):=by
  obtain⟨⟨q⟩,⟨_,q2,_,_,⟨_,_,_⟩,⟨⟨_,_,_,_⟩,_,_,_⟩⟩,⟨_,_,_,wO⟩,⟨_,_⟩,⟨_,_⟩,_,_⟩:=s;unfold uP at h;try dsimp only at h
  refine bf Tryz.func144 λctr hc=>?_;refine aZ ?_;refine Wi 6 0 h sB (jo _) λv h1=>?_;refine om 13 0 h (sK v sB) (Zq _ _) λv1 h2=>?_;refine Wi 28 0 h (sK v (sK v1 (sF sB))) (ko _) λv2 h3=>?_;refine Wo 29 0 (Qf ⟨q⟩ q2 wO (aY n 1) v2) λv3 h4=>?_;refine Wk [] 0 [] Wz

theorem WT s n r (h:uQ s n=some r):Pf 145 [aS aj s,vi n] (aS aj r):=by
  obtain⟨⟨q⟩,⟨_,q2,_,_,⟨_,_,_⟩,⟨⟨_,_,_,_⟩,_,_,_⟩⟩,⟨_,_,_,wO⟩,⟨_,_⟩,⟨_,_⟩,_,_⟩:=s;unfold uQ at h;try dsimp only at h
  refine bf Tryz.func145 λctr hc=>?_;refine aZ ?_;refine Wi 6 0 h sB (jo _) λv h1=>?_;refine om 13 0 h (sK v sB) (Zq _ _) λv1 h2=>?_;refine Wi 29 0 h (sK v (sK v1 (sF sB))) (ko _) λv2 h3=>?_;refine Wo 30 0 (ad2 ⟨q⟩ q2 wO (aY n 1) v2) λv3 h4=>?_;obtain⟨⟨_⟩,_⟩:=v3;refine Wk [] 0 [] Wz

theorem ad4 s r (h:P9 s=some r):Pf 87 [aV aj s] (.jO 2 (λj=>match j with|0=>(aV aj r.1)|1=>(Lu aj r.2)|_=>.junk)):=by
  obtain⟨⟨⟨_⟩,⟨_,_,_,_,⟨_,_,_⟩,⟨⟨_,_,_,_⟩,_,_,_⟩⟩,⟨_,_,_,_⟩,⟨_,_⟩,⟨_,_⟩,_,_⟩,⟨⟨_⟩,⟨_,_,_,_,⟨_,_,_⟩,⟨⟨_,_,_,_⟩,_,_,_⟩⟩,⟨_,_,_,_⟩,⟨_,_⟩,⟨_,_⟩,_,_⟩,_,⟨_⟩,⟨⟨_,_,_,_,⟨_,_,_⟩,⟨⟨_,_,_,_⟩,_,_,_⟩⟩,⟨_,_,_,_,⟨_,_,_⟩,⟨⟨_,_,_,_⟩,_,_,_⟩⟩⟩,_,_,_⟩:=s;unfold P9 at h;try dsimp only at h
  refine bf Tryz.func87 λctr hc=>?_;refine aZ ?_;refine Wi 6 0 h sB (KJ _) λv h1=>?_;refine Wk [] 0 [] Wz

end Go.Vx
