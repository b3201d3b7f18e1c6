/- Walks, by program (lift5.py): the code does what the lifted functions say. -/
import Derived.Test.YtmpgicplgjmjkaaGreatDoorTWb5
import Derived.Test.YtmpgicplgjmjkaaGreatDoorTWb6
import Derived.Test.YtmpgicplgjmjkaaGreatDoorTWb7
import Derived.Test.YtmpgicplgjmjkaaGreatDoorTWb8
set_option linter.all false
namespace Go.Vx
open Go.Proofs
set_option maxRecDepth 100000
set_option maxHeartbeats 8000000
set_option linter.unusedVariables false
set_option linter.unusedSimpArgs false
attribute [local irreducible] chk aA au aO oH

theorem Yi s sep sepSave n r (h:strings_genSplit s sep sepSave n=some r):Pf 93 [vs s,vs sep,vi sepSave,vi n] (Us aj r):=by
  unfold strings_genSplit at h;refine bf Tryz.func93 λctr hc=>?_;revert h;refine bT 3 [] 0 [] (Wq ?_);intro h;intros;refine bR h (ctr+3) [(3,1),(15,6)] [] (λn1 u=>Fa [(3,vi n1)] []) (λn1 uc ug ut ht hu hp h=>?_) (λf h=>?_)
  . revert h;refine bT 4 [] 0 [] (Wq ?_);intro h;intros;refine bR h (uc+4) [(0,1),(9,2),(22,24)] [(31,1)] (λ(s1,i,a) u1=>⟨[(0,vs s1),(10,vi i)],[(31,Rs aj (uc+1) ((std Tryz.prog).wT n1 ((std Tryz.prog).add ((std Tryz.prog).zH s) 1)) (u1.t 31) a)],λ_=>ah a=(aP n1 ((bn s)+1))⟩) (λx dQ iN iG ht hu hp h=>?_) (λf h=>?_)
    . obtain⟨_,_,_⟩:=x;try dsimp only at hp h
      refine Wx [] 0 [] Wz
    refine Tr.block ?_;refine gy h (uc+4) [(0,1),(9,2),(22,24)] [(31,1)] (λ(s2,i1,a1) u2=>⟨[(0,vs s2),(10,vi i1)],[(31,Rs aj (uc+1) ((std Tryz.prog).wT n1 ((std Tryz.prog).add ((std Tryz.prog).zH s) 1)) (u2.t 31) a1)],λ_=>ah a1=(aP n1 ((bn s)+1))⟩) dN (λx lD qW pU f ht hu hp h=>?_);obtain⟨s2,_,_⟩:=x;try dsimp only at hp h
    refine aZ ?_;refine Wo 39 0 (acn s2 sep) λv h37=>?_;refine Wk [] 0 [] Wz
  refine aZ ?_;refine Wo 23 0 (aco s sep) λv1 h44=>?_;refine Wk [] 0 [] Wz

theorem wC s sep r (h:strings_Split s sep=some r):Pf 45 [vs s,vs sep] (Us aj r):=by
  unfold strings_Split at h;refine bf Tryz.func45 λctr hc=>?_;refine aZ ?_;refine Wo 7 1 (Yi s sep 0 (-1)) λv h1=>?_;refine Wk [] 0 [] Wz

theorem Yj s base bitSize r (h:GJ s base bitSize=some r):Pf 96 [vs s,vi base,vi bitSize] (.jO 2 (λj=>match j with|0=>(vi r.1)|1=>(.v .nilIface)|_=>.junk)):=by
  unfold GJ at h;refine bf Tryz.func96 λctr hc=>?_;refine aZ ?_;refine Wi 13 0 h sB (WL _ _ _) λv h1=>?_;obtain⟨_,_⟩:=v;refine Wk [] 0 [] Wz

theorem oQ s r (h:uo s=some r):Pf 47 [vs s] (vi r):=by
  unfold uo at h;refine bf Tryz.func47 λctr hc=>?_;refine aZ ?_;refine Wo 7 0 (Yj s 16 32) λv h1=>?_;obtain⟨_,_⟩:=v;refine Wk [] 0 [] Wz

theorem adT s r (h:PL s=some r):Pf 21 [vs s] (vi r):=by
  unfold PL at h;refine bf Tryz.func21 λctr hc=>?_;refine aZ ?_;refine Wo 4 0 (oQ s) λv h1=>?_;refine Wk [] 0 [] Wz

theorem Zn text r (h:C9 text=some r):Pf 19 [vs text,.fn (.func 20) 0 (λ_=>.junk)] (Em aj r):=by
  unfold C9 at h;refine bf Tryz.func19 λctr hc=>?_;revert h;refine bT 2 [] 0 [] (Wq ?_);intro h;intros;refine bR h (ctr+2) [(7,50)] [(5,1),(5,1),(42,1)] (λo u=>Fa [] [(5,.box (ctr+1) [.vec 54 (u.g 54) 3 0 (aj.len o)]),(54,qy aj (u.g 54) (aj.len o) (u.t 54) o)]) (λo uc ug ut ht hu hp h=>?_) (λf h=>?_)
  . refine Wx [] 0 [] Wz
  refine aZ ?_;refine Wi 11 1 h sB (wC _ _) λv h24=>?_;revert h;refine kK 1 [] 0 [] (Wq ?_);intro h;intros;refine Tr.block ?_;refine gy h (ctr+3) [(7,3),(3,44)] [(5,1),(48,1)] (λ(v1,o1) u1=>Fa [(13,vi v1)] [(5,.box (ctr+1) [.vec 54 (u1.g 54) 3 0 (aj.len o1)]),(54,qy aj (u1.g 54) (aj.len o1) (u1.t 54) o1)]) dN (λx dQ iN iG f ht hu hp h=>?_);obtain⟨_,o1⟩:=x;try dsimp only at hp h
  revert h;refine bT 2 [] 0 [] (Wq ?_);intro h;intros;refine bR h (dQ+1) [(7,3),(5,41)] [(5,1),(3,1),(8,1),(35,1)] (λo2 u2=>⟨[],[(5,.box (ctr+1) [.vec 54 (u2.g 54) 3 0 ((std Tryz.prog).add (aj.len o1) 1)]),(54,qy aj (u2.g 54) ((std Tryz.prog).add (aj.len o1) 1) (u2.t 54) o2)],λ_=>ah o2=((ah o1)+1)⟩) (λo2 lD qW pU ht hu hp h=>?_) (λf h=>?_)
  . try dsimp only at hp h
    refine Wx [] 0 [] Wz
  refine Tr.block ?_;refine aZ ?_;refine Wi 18 1 h (sC sB) (DW _) λv2 h59=>?_;revert h;refine kK 3 [] 0 [] (Wq ?_);intro h;intros;refine bR h (dQ+4) [(19,25)] [(9,1)] (λ(I5,PO,PS) u3=>Fa [] [(9,.box (dQ+3) [vi I5,vi PO,vi PS])]) (λx oV BD zT ht hu hp h=>?_) (λf h=>?_)
  . obtain⟨_,_,_⟩:=x;try dsimp only at hp h
    refine Wx [53] 0 [] Wz
  revert h;refine bT 1 [] 0 [] (Wq ?_);intro h;intros;refine Tr.block ?_;refine bR h (dQ+5) [(21,9)] [(9,1)] (λDa u4=>Fa [] [(9,.box (dQ+3) [vi 0,vi Da,vi 0])]) (λDa yN MQ JN ht hu hp h=>?_) (λf h=>?_)
  . refine aZ ?_;refine Wi 33 0 h (sC sB) (oQ _) λv3 h71=>?_;refine Wi 41 0 h (sC (sK v3 (sC (sC sB)))) (acp _) λv4 h74=>?_;refine Wk [] 0 [] Wz
  refine aZ ?_;refine Wi 28 0 h (sT (sC sB)) (oQ _) λv5 h76=>?_;refine Wk [] 0 [] Wz

theorem aa0 text r (h:Ey text=some r):Pf 19 [vs text,.fn (.func 22) 0 (λ_=>.junk)] (Em aj r):=by
  unfold Ey at h;refine bf Tryz.func19 λctr hc=>?_;revert h;refine bT 2 [] 0 [] (Wq ?_);intro h;intros;refine bR h (ctr+2) [(7,50)] [(5,1),(5,1),(42,1)] (λo u=>Fa [] [(5,.box (ctr+1) [.vec 54 (u.g 54) 3 0 (aj.len o)]),(54,qy aj (u.g 54) (aj.len o) (u.t 54) o)]) (λo uc ug ut ht hu hp h=>?_) (λf h=>?_)
  . refine Wx [] 0 [] Wz
  refine aZ ?_;refine Wi 11 1 h sB (wC _ _) λv h24=>?_;revert h;refine kK 1 [] 0 [] (Wq ?_);intro h;intros;refine Tr.block ?_;refine gy h (ctr+3) [(7,3),(3,44)] [(5,1),(48,1)] (λ(v1,o1) u1=>Fa [(13,vi v1)] [(5,.box (ctr+1) [.vec 54 (u1.g 54) 3 0 (aj.len o1)]),(54,qy aj (u1.g 54) (aj.len o1) (u1.t 54) o1)]) dN (λx dQ iN iG f ht hu hp h=>?_);obtain⟨_,o1⟩:=x;try dsimp only at hp h
  revert h;refine bT 2 [] 0 [] (Wq ?_);intro h;intros;refine bR h (dQ+1) [(7,3),(5,41)] [(5,1),(3,1),(8,1),(35,1)] (λo2 u2=>⟨[],[(5,.box (ctr+1) [.vec 54 (u2.g 54) 3 0 ((std Tryz.prog).add (aj.len o1) 1)]),(54,qy aj (u2.g 54) ((std Tryz.prog).add (aj.len o1) 1) (u2.t 54) o2)],λ_=>ah o2=((ah o1)+1)⟩) (λo2 lD qW pU ht hu hp h=>?_) (λf h=>?_)
  . try dsimp only at hp h
    refine Wx [] 0 [] Wz
  refine Tr.block ?_;refine aZ ?_;refine Wi 18 1 h (sC sB) (DW _) λv2 h59=>?_;revert h;refine kK 3 [] 0 [] (Wq ?_);intro h;intros;refine bR h (dQ+4) [(19,25)] [(9,1)] (λ(I5,PO,PS) u3=>Fa [] [(9,.box (dQ+3) [vi I5,vi PO,vi PS])]) (λx oV BD zT ht hu hp h=>?_) (λf h=>?_)
  . obtain⟨_,_,_⟩:=x;try dsimp only at hp h
    refine Wx [53] 0 [] Wz
  revert h;refine bT 1 [] 0 [] (Wq ?_);intro h;intros;refine Tr.block ?_;refine bR h (dQ+5) [(21,9)] [(9,1)] (λDa u4=>Fa [] [(9,.box (dQ+3) [vi 0,vi Da,vi 0])]) (λDa yN MQ JN ht hu hp h=>?_) (λf h=>?_)
  . refine aZ ?_;refine Wi 33 0 h (sC sB) (oQ _) λv3 h71=>?_;refine Wi 41 0 h (sC (sK v3 (sC (sC sB)))) (adU _) λv4 h74=>?_;refine Wk [] 0 [] Wz
  refine aZ ?_;refine Wi 28 0 h (sT (sC sB)) (oQ _) λv5 h76=>?_;refine Wk [] 0 [] Wz

theorem Zo text r (h:Hw text=some r):Pf 23 [vs text] (alR aj r):=by
  unfold Hw at h;refine bf Tryz.func23 λctr hc=>?_;revert h;refine bT 2 [] 0 [] (Wq ?_);intro h;intros;refine bR h (ctr+2) [(3,1),(1,27)] [(8,1),(21,1)] (λl' u=>Fa [(3,.vec 30 (u.g 30) 2 0 (aj.len l'))] [(30,ado aj (u.g 30) (aj.len l') (u.t 30) l')]) (λl' uc ug ut ht hu hp h=>?_) (λf h=>?_)
  . refine Wx [] 0 [] Wz
  refine aZ ?_;refine Wi 8 1 h sB (wC _ _) λv h20=>?_;revert h;refine kK 1 [] 0 [] (Wq ?_);intro h;intros;refine Tr.block ?_;refine gy h (ctr+3) [(3,1),(1,2),(3,22)] [(15,1),(14,1)] (λ(v1,iE) u1=>Fa [(3,.vec 30 (u1.g 30) 2 0 (aj.len iE)),(10,vi v1)] [(30,ado aj (u1.g 30) (aj.len iE) (u1.t 30) iE)]) dN (λx dQ iN iG f ht hu hp h=>?_);obtain⟨_,_⟩:=x;try dsimp only at hp h
  refine aZ ?_;refine Wi 15 1 h (sT (sC sB)) (DW _) λv2 h40=>?_;refine Wo 23 0 (oQ (aB ByteArray.empty v2 (0+0))) λv3 h42=>?_;refine Wo 27 0 (oQ (aB ByteArray.empty v2 (0+1))) λv4 h44=>?_;refine Wk [29] 0 [] Wz

theorem aiU text r (h:Q7 text=some r):Pf 24 [vs text] (alQ aj r):=by
  unfold Q7 at h;refine bf Tryz.func24 λctr hc=>?_;revert h;refine bT 2 [] 0 [] (Wq ?_);intro h;intros;refine bR h (ctr+2) [(3,1),(1,31)] [(8,1),(25,1)] (λl' u=>Fa [(3,.vec 34 (u.g 34) 3 0 (aj.len l'))] [(34,adn aj (u.g 34) (aj.len l') (u.t 34) l')]) (λl' uc ug ut ht hu hp h=>?_) (λf h=>?_)
  . refine Wx [] 0 [] Wz
  refine aZ ?_;refine Wi 8 1 h sB (wC _ _) λv h24=>?_;revert h;refine kK 1 [] 0 [] (Wq ?_);intro h;intros;refine Tr.block ?_;refine gy h (ctr+3) [(3,1),(1,2),(3,26)] [(15,1),(18,1)] (λ(v1,iE) u1=>Fa [(3,.vec 34 (u1.g 34) 3 0 (aj.len iE)),(10,vi v1)] [(34,adn aj (u1.g 34) (aj.len iE) (u1.t 34) iE)]) dN (λx dQ iN iG f ht hu hp h=>?_);obtain⟨_,_⟩:=x;try dsimp only at hp h
  refine aZ ?_;refine Wi 15 1 h (sT (sC sB)) (DW _) λv2 h48=>?_;refine Wo 23 0 (oQ (aB ByteArray.empty v2 (0+0))) λv3 h50=>?_;refine Wo 27 0 (oQ (aB ByteArray.empty v2 (0+1))) λv4 h52=>?_;refine Wo 31 0 (oQ (aB ByteArray.empty v2 (0+2))) λv5 h54=>?_;refine Wk [33] 0 [] Wz

theorem UR c' r' dy dx r (h:BO c' r' dy dx=some r):Pf 115 [gu aj c',iD aj r',vi dy,vi dx] (gu aj r):=by
  obtain⟨q,_,_,_,⟨_,_,_⟩,⟨⟨_,_,_,_⟩,_,_,_⟩⟩:=c';obtain⟨EX,zG,_,_⟩:=r';unfold BO at h;try dsimp only at h
  refine bf Tryz.func115 λctr hc=>?_;refine aZ ?_;refine Wi 13 0 h sB (pO _ _) λv h1=>?_;revert h;refine kK 3 [] 0 [] (Wq ?_);intro h;intros;refine bR h (ctr+3) [(9,2),(7,21)] [] (λ(top,aaz) u=>Fa [(9,vi top),(10,vi aaz)] []) (λx uc ug ut ht hu hp h=>?_) (λf h=>?_)
  . obtain⟨_,_⟩:=x;try dsimp only at hp h
    refine aZ ?_;refine Wi 45 0 h (sC sB) (E9 _ _ _ _) λv1 h4=>?_;refine Wo 53 0 (E9 q dx 0 (zG-1)) λv2 h6=>?_;refine Wk [] 0 [] Wz
  refine aZ ?_;refine Wo 23 0 (UU EX zG) λv3 h7=>?_;obtain⟨_,_,_,_⟩:=v3;refine Wk [] 0 [] Wz

theorem GN c' r' x' r (h:uw c' r' x'=some r):Pf 135 [gu aj c',iD aj r',vi x'] (gu aj r):=by
  obtain⟨_,q1,_,_⟩:=r';unfold uw at h;try dsimp only at h
  refine bf Tryz.func135 λctr hc=>?_;refine aZ ?_;refine Wi 9 0 h sB (pO _ _) λv h1=>?_;refine Wo 16 0 (nU x' 0 (q1-1)) λv1 h3=>?_;refine Wk [] 0 [] Wz

theorem aa1 c' r' n cap0 iI cap2 r (h:zu c' r' n cap0 iI cap2=some r):Pf 240 [gu aj c',iD aj r',vi n,.gX 1 1 (λ_ j=>(vi cap0)) 0 0,.gX 1 1 (λ_ j=>(vi iI)) 0 0,.gX 1 1 (λ_ j=>(vb cap2)) 0 0] (gu aj r):=by
  unfold zu at h;refine bf Tryz.func240 λctr hc=>?_;refine aZ ?_;refine Wi 18 0 h (sC (sC sB)) (UR _ _ _ _) λv h3=>?_;refine Wo 22 0 (GN v r' 0) λv1 h4=>?_;refine Wk [] 0 [] Wz

theorem UW c' r' n r (h:sW c' r' n=some r):Pf 134 [gu aj c',iD aj r',vi n] (gu aj r):=by
  unfold sW at h;refine bf Tryz.func134 λctr hc=>?_;refine aZ ?_;refine Wo 11 0 (GN c' r' (n-1)) λv h2=>?_;refine Wk [] 0 [] Wz

theorem Zp c' r' y' x' r (h:G6 c' r' y' x'=some r):Pf 138 [gu aj c',iD aj r',vi y',vi x'] (gu aj r):=by
  obtain⟨_,_,_,_,⟨_,_,_⟩,⟨⟨_,_,_,_⟩,_,_,_⟩⟩:=c';obtain⟨EX,zG,q16,yO⟩:=r';unfold G6 at h;try dsimp only at h
  refine bf Tryz.func138 λctr hc=>?_;refine aZ ?_;refine Wi 11 0 h sB (pO _ _) λv h1=>?_;revert h;refine kK 2 [] 0 [] (Wq ?_);intro h;intros;refine bR h (ctr+2) [(14,18)] [(4,1)] (λEW u=>Fa [] [(4,.box (ctr+0) (cellsOf 14 λj=>(xM aj EW j)))]) (λEW uc ug ut ht hu hp h=>?_) (λf h=>?_)
  . refine aZ ?_;refine Wo 36 0 (nU x' 0 (zG-1)) λv1 h7=>?_;refine Wk [] 0 [] Wz
  refine aZ ?_;refine Wo 24 0 (E9 q16 y' q16 (yO-1)) λv2 h9=>?_;refine Wo 30 0 (nU y' 0 (EX-1)) λv3 h11=>?_;refine Wk [] 0 [] Wz

theorem UY c' r' n r (h:sZ c' r' n=some r):Pf 137 [gu aj c',iD aj r',vi n] (gu aj r):=by
  unfold sZ at h;refine bf Tryz.func137 λctr hc=>?_;refine aZ ?_;refine Wi 13 0 h (sC sB) (Zp _ _ _ _) λv h2=>?_;refine Wk [] 0 [] Wz

theorem an8 v a0 a1 a2 r (h:adf v a0 a1 a2=some r):Pf (aj.fF v) ([gu aj a0,iD aj a1,vi a2]++cellsOf (aj.fK v) (aj.fC v)) (gu aj r):=by
  unfold adf at h;split at h
  . exact aa1 a0 a1 a2 _ _ _ r h
  . exact UW a0 a1 a2 r h
  . exact UY a0 a1 a2 r h
  cases h

theorem WM x' u r (h:uI x' u=some r):Pf 114 [aS aj x',vi u] (aS aj r):=by
  unfold uI at h;refine bf Tryz.func114 λctr hc=>?_;refine aZ ?_;refine Wi 9 0 h sB (UR _ _ _ _) λv h1=>?_;refine Wk [] 0 [] Wz

theorem Jg x' r (h:vI x'=some r):Pf 120 [aS aj x'] (aS aj r):=by
  unfold vI at h;refine bf Tryz.func120 λctr hc=>?_;refine aZ ?_;refine Wi 7 0 h sB (GN _ _ _) λv h1=>?_;refine Wk [] 0 [] Wz

theorem WO x' u r (h:uK x' u=some r):Pf 119 [aS aj x',vi u] (aS aj r):=by
  unfold uK at h;refine bf Tryz.func119 λctr hc=>?_;refine aZ ?_;refine Wo 6 0 (Jg x') λv h1=>?_;refine Wk [] 0 [] Wz

theorem ag4 s at' r (h:H7 s at'=some r):Pf 254 [nC aj s,vi at'] (nC aj r):=by
  unfold H7 at h;refine bf Tryz.func254 λctr hc=>?_;refine aZ ?_;refine Wo 6 0 (zF s) λv h1=>?_;refine Wo 8 0 (LP 80) λv1 h2=>?_;refine Wi 11 3 h (sK v (sF sB)) (KI _ _) λv2 h3=>?_;refine Wk [] 0 [] Wz

theorem acr x' k' r (h:A8 x' k'=some r):Pf 152 [aS aj x',vi k'] (aS aj r):=by
  unfold A8 at h;refine bf Tryz.func152 λctr hc=>?_;refine aZ ?_;refine Wo 13 0 (ag4 x'.fT x'.fC.fX) λv h1=>?_;refine Wo 19 0 (aiV x'.fT) λv1 h2=>?_;refine Wk [] 0 [] Wz

theorem adV s u a r (h:DC s u a=some r):Pf 139 [aV aj s,dF aj u,gG aj a] (aV aj r):=by
  unfold DC at h;refine bf Tryz.func139 λctr hc=>?_;refine aZ ?_;refine Wo 10 0 (eD s) λv h1=>?_;refine Wo 13 0 (Jh a.cO 1 1 1 5000) λv1 h2=>?_;refine Wo 19 0 (Dh a) λv2 h3=>?_;refine Wo 23 0 (Zp v.fC v.fR (v2-1) (v1-1)) λv3 h6=>?_;refine Wi 27 0 h (sK v (sK v1 (sK v2 (sC (sC (sK v3 sB)))))) (jc _ _) λv4 h7=>?_;refine Wk [] 0 [] Wz

theorem aiW p' l' r (h:Mc p' l'=some r):Pf 256 [jN aj p',(.sl 1 (aj.len l') false (λix jx=>(.sl 1 (aj.len (aj.get [] l' ix)) false (λlW zS=>(vi (aj.get 0 (aj.get [] l' ix) lW))))))] (jN aj r):=by
  obtain⟨_,_,_⟩:=p';unfold Mc at h;try dsimp only at h
  refine bf Tryz.func256 λctr hc=>?_;refine aZ ?_;refine Wi 11 0 h sB (FW _) λv h1=>?_;revert h;refine kK 2 [] 0 [] (Wq ?_);intro h;intros;refine bR h (ctr+2) [(5,5),(9,69)] [(2,1)] (λ(ab7,ab8,ab9) u=>Fa [] [(2,.box (ctr+0) [vi ab7,vi ab8,vi ab9])]) (λx uc ug ut ht hu hp h=>?_) (λf h=>?_)
  . obtain⟨_,_,_⟩:=x;try dsimp only at hp h
    refine Wx [] 0 [] Wz
  revert h;refine bT 1 [] 0 [] (Wq ?_);intro h;intros;refine Tr.block ?_;refine gy h (ctr+3) [(5,5),(9,69)] [(2,1)] (λ(i,I6,I7,EC) u1=>Fa [(5,vi i)] [(2,.box (ctr+0) [vi I6,vi I7,vi EC])]) dN (λx dQ iN iG f ht hu hp h=>?_);obtain⟨_,_,_,_⟩:=x;try dsimp only at hp h
  revert h;refine bT 1 [] 0 [] (Wq ?_);intro h;intros;refine bR h (dQ+1) [(5,5),(15,63)] [(2,1),(58,1)] (λ(i1,alZ,al0,al1) u2=>Fa [(5,vi i1)] [(2,.box (ctr+0) [vi alZ,vi al0,vi al1])]) (λx lD qW pU ht hu hp h=>?_) (λf h=>?_)
  . obtain⟨_,_,_,_⟩:=x;try dsimp only at hp h
    refine Wx [] 0 [] Wz
  refine Tr.block ?_;refine aZ ?_;refine Wi 44 0 h (sC (sF (sC (sC (sT sB))))) (al9 _ _) λv1 aBp=>?_;obtain⟨_,_,_⟩:=v1;revert h;refine kK 5 [] 0 [] (Wq ?_);intro h;intros;refine aZ ?_;refine Wi 52 0 h (sT (sC sB)) (aiX _) λv2 aBq=>?_;refine Wo 53 4 (XW v2) λv3 aBr=>?_;obtain⟨_,_⟩:=v3;refine Wi 61 1 h (sF (sC (sC sB))) (ag5 _) λv4 azf=>?_;refine Wo 62 4 (XW v4) λv5 h116=>?_;obtain⟨_,_⟩:=v5;refine Wk [] 0 [] Wz

theorem aft s u a r (h:Fp s u a=some r):Pf 153 [aV aj s,dF aj u,gG aj a] (aV aj r):=by
  unfold Fp at h;refine bf Tryz.func153 λctr hc=>?_;refine aZ ?_;refine Wo 9 0 (eD s) λv h1=>?_;refine Wi 15 0 h (sK v sB) (aiW _ _) λv1 h2=>?_;refine Wi 20 0 h (sK v (sK v1 sB)) (jc _ _) λv2 h3=>?_;refine Wk [] 0 [] Wz

theorem adW m dU n r (h:Dm m dU n=some r):Pf 267 [w9 aj m,vb dU,vi n] (vi r):=by
  unfold Dm at h;refine bf Tryz.func267 λctr hc=>?_;refine aZ ?_;refine Wo 8 0 (Gn m) λv h1=>?_;refine om 13 0 h (sK v sB) (KH _ _) λv1 h2=>?_;refine Wo 19 0 (tJ m dU n) λv2 h3=>?_;refine Wk [] 0 [] Wz

theorem UZ s u a cap0 iI r (h:sH s u a cap0 iI=some r):Pf 266 [aV aj s,dF aj u,gG aj a,.gX 1 1 (λ_ j=>(vb cap0)) 0 0,.gX 1 1 (λ_ j=>(vs iI)) 0 0] (aV aj r):=by
  unfold sH at h;refine bf Tryz.func266 λctr hc=>?_;refine aZ ?_;refine Wo 12 0 (zI a) λv h1=>?_;refine Wo 17 0 (adW s.fM cap0 v) λv1 h2=>?_;refine Wo 18 0 (CW v1) λv2 h3=>?_;refine Wo 23 0 (CW v) λv3 h5=>?_;refine Wi 29 0 h (sK v (sK v1 (sK v2 (sC (sK v3 (sC (sC (sC (sC sB))))))))) (AJ _ _) λv4 h10=>?_;refine Wk [] 0 [] Wz

theorem akj d' l' y' p' r (h:ace d' l' y' p'=some r):Pf 194 [dF aj d',lX aj l',vi y',Pm aj p'] (FJ aj r):=by
  obtain⟨_,_,q2,_,q4⟩:=p';unfold ace at h;try dsimp only at h
  refine bf Tryz.func194 λctr hc=>?_;refine aZ ?_;refine Wi 22 1 h (sC sB) (U0 _) λv h2=>?_;refine Wo 29 0 (SG (aB aH l' y')) λv1 h4=>?_;obtain⟨q5,_⟩:=v1;refine Wo 44 1 (afu d' q5 (kU q2 (ah v) ((ah v)+(ah q5))) q4) λv2 h7=>?_;revert h;refine kK 6 [] 0 [] (Wq ?_);intro h;intros;refine bR h (ctr+6) [(14,3),(36,30)] [(51,1)] (λcells u=>⟨[],[(51,jQ aj (ctr+4) (aj.len (aj.get aH l' y').aN) (u.t 51) cells)],λ_=>ah cells=(ah (aB aH l' y').aN)⟩) (λcells uc ug ut ht hu hp h=>?_) (λf h=>?_)
  . try dsimp only at hp h
    refine aZ ?_;refine Wi 88 0 h sB (akk _ _ _ _) λv3 h31=>?_;refine Wk [] 0 [(15,[.freeze (.slot 13),.freeze (.slot 12)])] Wz
  revert h;refine bT 1 [] 0 [] (Wq ?_);intro h;intros;refine Tr.block ?_;refine gy h (ctr+7) [(14,3),(42,24)] [(16,1),(34,1)] (λ(n,v4,P8) u1=>⟨[(14,vi n),(59,vi v4)],[(51,jQ aj (ctr+4) (aj.len (aj.get aH l' y').aN) (u1.t 51) P8)],λ_=>ah P8=(ah (aB aH l' y').aN)⟩) dN (λx dQ iN iG f ht hu hp h=>?_);obtain⟨_,_,_⟩:=x;try dsimp only at hp h
  refine Wx [] 0 [] Wz

end Go.Vx
