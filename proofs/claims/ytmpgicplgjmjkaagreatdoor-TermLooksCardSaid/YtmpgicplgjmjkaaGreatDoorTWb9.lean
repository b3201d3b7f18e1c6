/- Walks, by program (lift5.py): the code does what the lifted functions say. -/
import Derived.Test.YtmpgicplgjmjkaaGreatDoorTWb5
import Derived.Test.YtmpgicplgjmjkaaGreatDoorTWb6
import Derived.Test.YtmpgicplgjmjkaaGreatDoorTWb7
import Derived.Test.YtmpgicplgjmjkaaGreatDoorTWb8
set_option linter.all false
namespace Go.Vx
open Go.Proofs
set_option maxRecDepth 100000
set_option maxHeartbeats 8000000
set_option linter.unusedVariables false
set_option linter.unusedSimpArgs false
attribute [local irreducible] chk aA au aO oH

theorem p8 r' r (h:qc r'=some r):Pf 274 [gH aj r'] (vb r):=by
  obtain⟨q,_,_,_⟩:=r';unfold qc at h;try dsimp only at h
  refine bf Tryz.func274 λctr hc=>?_;revert h;refine bT 2 [] 0 [] (Wq ?_);intro h;intros;refine bR h (ctr+2) [(2,3),(20,18)] [] (λ_ u=>Fa [] []) (λx uc ug ut ht hu hp h=>?_) (λf h=>?_)
  . refine Wx [] 0 [] Wz
  revert h;refine bT 1 [] 0 [] (Wq ?_);intro h;intros;refine Tr.block ?_;refine gy h (ctr+3) [(2,3),(23,15)] [(4,1)] (λv u1=>Fa [(28,vi v)] []) dN (λv dQ iN iG f ht hu hp h=>?_);refine aZ ?_;refine Wi 34 0 h (sT (sC sB)) (abC _) λv1 h18=>?_;refine uh 40 0 (!(!v1)) (abB q v) false λv2 h19=>?_;refine Wk [] 0 [] Wz

theorem Jr g' r (h:zQ g'=some r):Pf 273 [kW aj g'] (vb r):=by
  obtain⟨_⟩:=g';unfold zQ at h;try dsimp only at h
  refine bf Tryz.func273 λctr hc=>?_;revert h;refine bT 2 [] 0 [] (Wq ?_);intro h;intros;refine bR h (ctr+2) [(2,1),(1,1),(10,23)] [] (λ_ u=>Fa [] []) (λx uc ug ut ht hu hp h=>?_) (λf h=>?_)
  . refine Wx [] 0 [] Wz
  revert h;refine bT 1 [] 0 [] (Wq ?_);intro h;intros;refine Tr.block ?_;refine gy h (ctr+3) [(2,1),(1,1),(13,20)] [(4,1)] (λv u1=>Fa [(18,vi v)] []) dN (λv dQ iN iG f ht hu hp h=>?_);refine aZ ?_;refine om 34 0 h (sT (sC (sC sB))) (p8 _) λv1 h19=>?_;refine Wk [] 0 [] Wz

theorem ai1 g' r (h:MH g'=some r):Pf 176 [kW aj g'] (.jO 2 (λj=>match j with|0=>(vi r.1)|1=>(vi r.2)|_=>.junk)):=by
  obtain⟨q⟩:=g';unfold MH at h;try dsimp only at h
  refine bf Tryz.func176 λctr hc=>?_;refine aZ ?_;refine Wo 5 0 (Jr ⟨q⟩) λv h1=>?_;refine Wk [] 0 [] Wz

theorem Ji k' r (h:vU k'=some r):Pf 177 [vD aj k'] (vb r):=by
  obtain⟨_,_⟩:=k';unfold vU at h;try dsimp only at h
  refine bf Tryz.func177 λctr hc=>?_;revert h;refine bT 2 [] 0 [] (Wq ?_);intro h;intros;refine bR h (ctr+2) [(2,1),(1,1),(16,11)] [] (λ_ u=>Fa [] []) (λx uc ug ut ht hu hp h=>?_) (λf h=>?_)
  . refine Wx [] 0 [] Wz
  revert h;refine bT 1 [] 0 [] (Wq ?_);intro h;intros;refine Tr.block ?_;refine gy h (ctr+3) [(2,1),(1,1),(19,8)] [(4,1)] (λv u1=>Fa [(24,vi v)] []) dN (λv dQ iN iG f ht hu hp h=>?_);refine aZ ?_;refine Wi 29 0 h (sT (sC sB)) (p8 _) λv1 Yr=>?_;refine Wk [] 0 [] Wz

theorem ako s b r (h:O7 s b=some r):Pf 25 [TS aj s,Lu aj b] (.jO 2 (λj=>match j with|0=>(TS aj r.1)|1=>(Li aj r.2)|_=>.junk)):=by
  obtain⟨q⟩:=s;unfold O7 at h;try dsimp only at h
  refine bf Tryz.func25 λctr hc=>?_;refine aZ ?_;refine Wo 12 0 (abA ⟨q⟩) λv h1=>?_;revert h;refine kK 6 [] 0 [] (Wq ?_);intro h;intros;refine bR h (ctr+6) [(5,6),(18,42)] [(28,1),(37,1)] (λl' u=>Fa [(7,.vec 66 (u.g 66) 1 0 (aj.len l'))] [(66,Ri aj (u.g 66) (aj.len l') (u.t 66) l')]) (λl' uc ug ut ht hu hp h=>?_) (λf h=>?_)
  . refine Wx [] 0 [] Wz
  refine Tr.block ?_;have aBv:=bW ((((jX 0 0)++q)++b));refine gy h (ctr+6) [(5,6),(18,42)] [(28,1),(37,1)] (λ(rM,wL,iE) u1=>⟨[(6,.vec 28 (ctr+4) 1 rM wL),(7,.vec 66 (u1.g 66) 1 0 (aj.len iE))],[(28,Ru aj (ctr+4) ((std Tryz.prog).add ((std Tryz.prog).add 0 (aj.len q)) (aj.len b)) (u1.t 28) (aj.app (aj.app (aj.rep 0 0) q) b)),(66,Ri aj (u1.g 66) (aj.len iE) (u1.t 66) iE)],λ_=>0<=rM/\0<=wL/\rM+wL<=ah (((jX 0 0)++q)++b)⟩) dN (λx dQ iN iG f ht hu hp h=>?_);obtain⟨rM,_,_⟩:=x;try dsimp only at hp h
  refine aZ ?_;refine Wi 34 4 h (sT sB) (X3 _) λv1 h38=>?_;obtain⟨_,q2⟩:=v1;refine Wo 48 4 (ahe (kU (((jX 0 0)++q)++b) (rM+0) ((rM+0)+(q2-0)))) λv2 h40=>?_;refine Wk [65] 0 [(13,[.freeze (.slot 6)])] Wz

theorem akr r' at' m r (h:Pg r' at' m=some r):Pf 217 [gH aj r',vi at',vi m] (gH aj r):=by
  obtain⟨_,_,_,_⟩:=r';unfold Pg at h;try dsimp only at h
  refine bf Tryz.func217 λctr hc=>?_;refine aZ ?_;refine Wi 11 0 h sB (p8 _) λv h1=>?_;revert h;refine kK 2 [] 0 [] (Wq ?_);intro h;intros;refine bR h (ctr+2) [(1,1),(31,9)] [] (λkg u=>Fa [(1,vi kg)] []) (λkg uc ug ut ht hu hp h=>?_) (λf h=>?_)
  . revert h;refine bT 1 [] 0 [] (Wq ?_);intro h;intros;refine bR h (uc+1) [(7,3),(40,25)] [] (λ_ u1=>Fa [] []) (λx dQ iN iG ht hu hp h=>?_) (λf h=>?_)
    . refine Wx [] 0 [] Wz
    revert h;refine bT 1 [] 0 [] (Wq ?_);intro h;intros;refine Tr.block ?_;refine Tr.rounds 3 ?_;refine kX h (uc+2) [(7,3),(46,19)] [] (λ_ u2=>Fa [(56,vi 1)] []) (λx lD qW pU ht hu hp h=>?_) (λf h=>?_)
    . refine kX h lD [(7,3),(46,19)] [] (λ_ u3=>Fa [(56,vi 2)] []) (λx oV BD zT ht hu hp h=>?_) (λf h=>?_)
      . refine Wx [] 0 [] Wz
      refine aZ ?_;refine Wi 63 1 h (sT sB) (zJ _) λv1 h19=>?_;refine Wk [] 0 [] Wz
    refine aZ ?_;refine Wi 63 1 h (sT sB) (zJ _) λv2 h22=>?_;refine Wk [] 0 [] Wz
  refine Wx [] 0 [] Wz

theorem acv r' cap0 iI r (h:F9 r' cap0 iI=some r):Pf 216 [gH aj r',.gX 1 1 (λ_ j=>(vi cap0)) 0 0,.gX 1 1 (λ_ j=>(vi iI)) 0 0] (gH aj r):=by
  unfold F9 at h;refine bf Tryz.func216 λctr hc=>?_;refine aZ ?_;refine Wi 8 0 h sB (akr _ _ _) λv h1=>?_;refine Wk [] 0 [] Wz

theorem akm g' y' r' r (h:Ph g' y' r'=some r):Pf 309 [kW aj g',vi y',gH aj r'] (kW aj r):=by
  obtain⟨q⟩:=g';obtain⟨_,_,_,_⟩:=r';unfold Ph at h;try dsimp only at h
  refine bf Tryz.func309 λctr hc=>?_;refine aZ ?_;refine Wo 9 0 (Jr ⟨q⟩) λv h6=>?_;refine om 36 0 h (sA (sK v (sC sB))) (p8 _) λv1 h8=>?_;refine Wo 41 1 (Jk ⟨q⟩) λv2 h9=>?_;refine Wkc 4 [] 0 [] h ctr [(3,1),(1,41)] [(3,1),(1,2),(34,1)] (λl' u=>Fa [(6,.fq 6 (u.g 6) 0),(7,.vec 41 (u.g 41) 4 0 (aj.len l'))] [(6,.box (u.g 6) [.dX]),(41,kT aj (u.g 41) (aj.len l') (u.t 41) l')]) (λl' uc ug ut ht hu hp h=>?_) (λf h=>Wz);refine Wx [] 0 [] Wz

theorem ajf r' from' to p' r (h:MI r' from' to p'=some r):Pf 327 [gH aj r',vi from',vi to,jN aj p'] (gH aj r):=by
  unfold MI at h;refine bf Tryz.func327 λctr hc=>?_;refine aZ ?_;refine Wo 11 0 (p8 r') λv1 h9=>?_;refine uh 15 0 (!(!v1)) (FW p') false λv2 h10=>?_;refine Wo 23 0 (afC r' from' to) λv3 h11=>?_;obtain⟨q,q1⟩:=v3;refine Wo 27 1 (zJ r') λv4 h12=>?_;refine DV 33 (λr h=>Ox v4 (0+q) (q1-q) p' r h ((aj.len v4)) Wy (false)) λv5 Yr=>?_;refine Wkc 5 [] 0 [] h ctr [(1,2),(1,1),(2,27)] [(4,1),(2,2),(18,1)] (λl' u=>Fa [(4,.fq 4 (u.g 4) 0),(8,.fq 8 (u.g 8) 0),(9,.vec 27 (u.g 27) 7 0 (aj.len l'))] [(4,.box (u.g 4) [Ao aj r'.aN,vb r'.dz,vi r'.dH,vb r'.bA]),(8,.box (u.g 8) [.dX,vb false,vi 0,vb false]),(27,jQ aj (u.g 27) (aj.len l') (u.t 27) l')]) (λl' uc ug ut ht hu hp h=>?_) (λf h=>Wz);refine aZ ?_;refine DV 36 (λr h=>Gq r' l' 0 (ah l') r h ((aj.len l')) Wy (ut 27)) λv h8=>?_;refine Wk [] 0 [] Wz

theorem Zx r' cap0 iI Ez EA uX r (h:CS r' cap0 iI Ez EA uX=some r):Pf 326 [gH aj r',.gX 1 1 (λ_ j=>(vi cap0)) 0 0,.gX 1 1 (λ_ j=>(vi iI)) 0 0,.gX 3 1 (λ_ j=>Qg [(0,.int .i64 Ez),(1,.int .i64 EA),(2,.int .i64 uX)] j) 0 0] (gH aj r):=by
  unfold CS at h;refine bf Tryz.func326 λctr hc=>?_;refine aZ ?_;refine Wi 10 0 h sB (ajf _ _ _ _) λv h1=>?_;refine Wk [] 0 [] Wz

theorem ZF r' at' right p' r (h:G5 r' at' right p'=some r):Pf 324 [gH aj r',vi at',vi right,jN aj p'] (vb r):=by
  obtain⟨_,_,_,_⟩:=r';unfold G5 at h;try dsimp only at h
  refine bf Tryz.func324 λctr hc=>?_;refine aZ ?_;refine Wi 10 0 h sB (p8 _) λv h1=>?_;refine uh 13 0 v (FW p') false λv1 h2=>?_;refine Wk [] 0 [] Wz

theorem ag9 r' at' n right p' r (h:Ig r' at' n right p'=some r):Pf 313 [gH aj r',vi at',vi n,vi right,jN aj p'] (gH aj r):=by
  obtain⟨q,q1,q2,q3⟩:=r';unfold Ig at h;try dsimp only at h
  refine bf Tryz.func313 λctr hc=>?_;refine aZ ?_;refine Wi 16 0 h (sA sB) (ZF _ _ _ _) λv2 h17=>?_;refine Wo 26 1 (zJ ⟨q,q1,q2,q3⟩) λv3 h19=>?_;refine Wkc 5 [] 0 [] h ctr [(2,1),(2,1),(3,32)] [(5,1),(3,2),(15,1)] (λl' u=>Fa [(2,vi ((std Tryz.prog).imax 0 ((std Tryz.prog).wT n ((std Tryz.prog).sub right at')))),(5,.fq 5 (u.g 5) 0),(9,.fq 9 (u.g 9) 0),(10,.fq 10 (u.g 10) 0),(11,.vec 26 (u.g 26) 7 0 (aj.len l'))] [(5,.box (u.g 5) [Ao aj q,vb q1,vi q2,vb q3]),(9,.box (u.g 9) [vi p'.jy,vi p'.jq,vi p'.dI]),(10,.box (u.g 10) [.dX,vb false,vi 0,vb false]),(26,jQ aj (u.g 26) (aj.len l') (u.t 26) l')]) (λl' uc ug ut ht hu hp h=>?_) (λf h=>Wz);refine bR h uc [(41,8)] [(26,1)] (λiE u1=>⟨[],[(26,jQ aj (ug 26) (aj.len l') (u1.t 26) iE)],λ_=>ah iE=(ah l')⟩) (λiE dQ iN iG ht hu hp h=>?_) (λf h=>?_)
  . try dsimp only at hp h
    refine aZ ?_;refine DV 51 (λr h=>Gq ⟨q,q1,q2,q3⟩ iE 0 (ah l') r h ((aj.len l')) Wy (iG 26)) λv h12=>?_;refine Wk [] 0 [] Wz
  refine aZ ?_;refine DV 48 (λr h=>Ox l' (0+at') ((at'+(aY 0 (aP n (right-at'))))-at') p' r h ((aj.len l')) Wy (ut 26)) λv1 h15=>?_;refine Wk [] 0 [] Wz

theorem amj r' at' c' r (h:Ut r' at' c'=some r):Pf 222 [gH aj r',vi at',VT aj c'] (gH aj r):=by
  obtain⟨q,q1,q2,q3⟩:=r';obtain⟨_,⟨_,_⟩,_,⟨_,_,_⟩⟩:=c';unfold Ut at h;try dsimp only at h
  refine bf Tryz.func222 λctr hc=>?_;refine aZ ?_;refine Wi 9 0 h sB (p8 _) λv h1=>?_;refine om 13 0 h (sK v sB) (abC _) λv1 h2=>?_;refine Wo 37 1 (zJ ⟨q,q1,q2,q3⟩) λv2 h4=>?_;revert h;refine kK 4 [] 0 [] (Wq ?_);intro h;intros;refine bR h (ctr+4) [(42,10)] [(37,1)] (λl' u=>⟨[],[(37,jQ aj (ctr+2) (aj.len v2) (u.t 37) l')],λ_=>ah l'=(ah v2)⟩) (λl' uc ug ut ht hu hp h=>?_) (λf h=>?_)
  . try dsimp only at hp h
    refine aZ ?_;refine DV 54 (λr h=>Gq ⟨q,q1,q2,q3⟩ l' 0 (ah v2) r h ((aj.len v2)) Wy (ut 37)) λv3 h8=>?_;refine Wk [] 0 [] Wz
  refine Wx [] 0 [] Wz

theorem aa6 x' cap0 iI cap2 Gg Gi AA PU Bz cap4 r (h:zm x' cap0 iI cap2 Gg Gi AA PU Bz cap4=some r):Pf 221 [gH aj x',.gX 1 1 (λ_ j=>(vi cap0)) 0 0,.gX 1 1 (λ_ j=>(vi iI)) 0 0,.gX 1 1 (λ_ j=>(vi cap2)) 0 0,.gX 25 1 (λ_ j=>Qg [(5,.int .i64 Gg),(6,.int .i64 Gi),(7,.int .i64 AA),(23,.int .i64 PU),(24,.bool Bz)] j) 0 0,.gX 1 1 (λ_ j=>(vb cap4)) 0 0] (gH aj r):=by
  unfold zm at h;refine bf Tryz.func221 λctr hc=>?_;refine aZ ?_;refine Wi 16 0 h sB (amj _ _ _) λv h1=>?_;refine Wk [999] 0 [] Wz

theorem aha r' at' n right p' r (h:Ih r' at' n right p'=some r):Pf 250 [gH aj r',vi at',vi n,vi right,jN aj p'] (gH aj r):=by
  obtain⟨q,q1,q2,q3⟩:=r';unfold Ih at h;try dsimp only at h
  refine bf Tryz.func250 λctr hc=>?_;refine aZ ?_;refine Wi 16 0 h (sA sB) (ZF _ _ _ _) λv2 h17=>?_;refine Wo 26 1 (zJ ⟨q,q1,q2,q3⟩) λv3 h19=>?_;refine Wkc 5 [] 0 [] h ctr [(2,1),(2,1),(3,32)] [(5,1),(3,2),(15,1)] (λl' u=>Fa [(2,vi ((std Tryz.prog).imax 0 ((std Tryz.prog).wT n ((std Tryz.prog).sub right at')))),(5,.fq 5 (u.g 5) 0),(9,.fq 9 (u.g 9) 0),(10,.fq 10 (u.g 10) 0),(11,.vec 26 (u.g 26) 7 0 (aj.len l'))] [(5,.box (u.g 5) [Ao aj q,vb q1,vi q2,vb q3]),(9,.box (u.g 9) [vi p'.jy,vi p'.jq,vi p'.dI]),(10,.box (u.g 10) [.dX,vb false,vi 0,vb false]),(26,jQ aj (u.g 26) (aj.len l') (u.t 26) l')]) (λl' uc ug ut ht hu hp h=>?_) (λf h=>Wz);refine bR h uc [(41,8)] [(26,1)] (λiE u1=>⟨[],[(26,jQ aj (ug 26) (aj.len l') (u1.t 26) iE)],λ_=>ah iE=(ah l')⟩) (λiE dQ iN iG ht hu hp h=>?_) (λf h=>?_)
  . try dsimp only at hp h
    refine aZ ?_;refine DV 51 (λr h=>Gq ⟨q,q1,q2,q3⟩ iE 0 (ah l') r h ((aj.len l')) Wy (iG 26)) λv h12=>?_;refine Wk [] 0 [] Wz
  refine aZ ?_;refine DV 48 (λr h=>Ox l' (0+(right-(aY 0 (aP n (right-at'))))) (right-(right-(aY 0 (aP n (right-at'))))) p' r h ((aj.len l')) Wy (ut 26)) λv1 h15=>?_;refine Wk [] 0 [] Wz

theorem U2 g' p' r (h:BN g' p'=some r):Pf 321 [kW aj g',jN aj p'] (vb r):=by
  unfold BN at h;refine bf Tryz.func321 λctr hc=>?_;refine aZ ?_;refine Wo 6 0 (Jr g') λv h1=>?_;refine uh 9 0 v (adQ 1 p') aH λv1 h2=>?_;refine uh 10 0 v (p8 v1) false λv2 h3=>?_;refine Wk [] 0 [] Wz

theorem ad3 k' l' r (h:Dx k' l'=some r):Pf 328 [vD aj k',lX aj l'] (vD aj r):=by
  obtain⟨q,q1⟩:=k';unfold Dx at h;try dsimp only at h
  refine bf Tryz.func328 λctr hc=>?_;refine aZ ?_;refine Wo 10 0 (Ji ⟨q,q1⟩) λv h1=>?_;revert h;refine kK 3 [] 0 [] (Wq ?_);intro h;intros;refine bR h (ctr+3) [(5,1),(1,1),(8,13)] [(15,1)] (λall u=>Fa [(5,.vec 15 (u.g 15) 4 0 (aj.len all))] [(15,kT aj (u.g 15) (aj.len all) (u.t 15) all)]) (λall uc ug ut ht hu hp h=>?_) (λf h=>?_)
  . refine Wx [] 0 [] Wz
  revert h;refine bT 1 [] 0 [] (Wq ?_);intro h;intros;refine Tr.block ?_;refine gy h (ctr+4) [(5,1),(1,1),(10,11)] [(7,1),(7,1),(11,1)] (λ(v1,all1) u1=>Fa [(5,.vec 15 (u1.g 15) 4 0 (aj.len all1)),(18,vi v1)] [(15,kT aj (u1.g 15) (aj.len all1) (u1.t 15) all1)]) dN (λx dQ iN iG f ht hu hp h=>?_);obtain⟨_,_⟩:=x;try dsimp only at hp h
  refine aZ ?_;refine Wi 23 0 h (sT (sC sB)) (p8 _) λv2 h27=>?_;refine Wk [26] 0 [] Wz

theorem abb s u a r (h:ze s u a=some r):Pf 154 [aV aj s,dF aj u,gG aj a] (aV aj r):=by
  unfold ze at h;refine bf Tryz.func154 λctr hc=>?_;refine aZ ?_;refine Wo 12 0 (eD s) λv h1=>?_;refine Wo 14 0 (Dh a) λv1 h2=>?_;refine Wo 24 0 (Jh a.cO 1 v.fR.fH 1 v.fR.fH) λv2 h4=>?_;refine Wo 29 0 (abf v.fR (v1-1) v2) λv3 h5=>?_;obtain⟨q,q1,q2,q3⟩:=v3;refine Wo 45 0 (KN ⟨v.fG,v.fC,⟨q,q1,q2,q3⟩,v.fT,v.fK,v.dH,v.bA⟩) λv4 h6=>?_;refine Wo 46 0 (jc s v4) λv5 h7=>?_;refine Wk [] 0 [] Wz

theorem acF c' r' r (h:Bc c' r'=some r):Pf 265 [gu aj c',iD aj r'] (.jO 2 (λj=>match j with|0=>(vi r.1)|1=>(vi r.2)|_=>.junk)):=by
  obtain⟨_,_,_,_,⟨_,_,_⟩,⟨⟨_,_,_,_⟩,_,_,_⟩⟩:=c';obtain⟨_,_,_,_⟩:=r';unfold Bc at h;try dsimp only at h
  refine bf Tryz.func265 λctr hc=>?_;refine aZ ?_;refine Wi 9 0 h sB (pO _ _) λv h1=>?_;refine Wk [] 0 [] Wz

theorem SV s r (h:zk s=some r):Pf 161 [aV aj s] (vs r):=by
  unfold zk at h;refine bf Tryz.func161 λctr hc=>?_;refine aZ ?_;refine Wo 7 0 (eD s) λv h1=>?_;refine Wo 13 0 (acF v.fC v.fR) λv1 h2=>?_;obtain⟨q,q1⟩:=v1;refine Wo 17 0 (CW q) λv2 h3=>?_;refine Wo 20 0 (CW q1) λv3 h5=>?_;refine Wk [] 0 [] Wz

theorem acz s u a r (h:Bd s u a=some r):Pf 156 [aV aj s,dF aj u,gG aj a] (aV aj r):=by
  unfold Bd at h;refine bf Tryz.func156 λctr hc=>?_;refine aZ ?_;refine Wo 8 0 (zI a) λv h1=>?_;refine Wi 12 0 h (sK v (sT sB)) (AJ _ _) λv1 h2=>?_;refine Wo 17 0 (SV s) λv2 h3=>?_;refine Wo 19 0 (AJ s (lY (⟨#[27,91]⟩:ByteArray) v2)) λv3 h5=>?_;refine Wk [] 0 [] Wz

theorem Zu s r (h:xD s=some r):Pf 160 [aV aj s] (vs r):=by
  unfold xD at h;refine bf Tryz.func160 λctr hc=>?_;refine aZ ?_;refine Wo 4 0 (SV s) λv h1=>?_;refine Wk [] 0 [] Wz

theorem aa8 k' g' back r (h:KD k' g' back=some r):Pf 196 [vD aj k',kW aj g',vi back] (YG aj r):=by
  obtain⟨q,q1⟩:=k';obtain⟨q2⟩:=g';unfold KD at h;try dsimp only at h
  refine bf Tryz.func196 λctr hc=>?_;refine aZ ?_;refine Wo 10 0 (Ji ⟨q,q1⟩) λv1 h10=>?_;refine uh 14 0 (!(!v1)) (Jr ⟨q2⟩) false λv2 h11=>?_;refine Wkc 4 [] 0 [] h ctr [(3,2),(1,2),(1,15)] [(3,2),(14,1),(3,1)] (λ_ u=>Fa [(3,.fq 3 (u.g 3) 0),(4,.fq 4 (u.g 4) 0),(7,.vec 23 (u.g 23) 4 0 ((std Tryz.prog).add (aj.len q) (aj.len q2)))] [(3,.box (u.g 3) [lX aj q,vi q1]),(4,.box (u.g 4) [lX aj q2]),(23,kT aj (u.g 23) ((std Tryz.prog).add (aj.len q) (aj.len q2)) (u.t 23) (aj.app q q2))]) (λx uc ug ut ht hu hp h=>?_) (λf h=>Wz);refine aZ ?_;refine Wi 30 0 h sB (MS _ _) λv h5=>?_;refine Wk [] 0 [] Wz

theorem ai5 l' r (h:YX l'=some r):Pf 191 [lX aj l'] (vb r):=by
  unfold YX at h;refine bf Tryz.func191 λctr hc=>?_;revert h;refine bT 1 [] 0 [] (Wq ?_);intro h;intros;refine bR h (ctr+1) [(2,1),(1,11)] [] (λ_ u=>Fa [] []) (λx uc ug ut ht hu hp h=>?_) (λf h=>?_)
  . refine Wx [] 0 [] Wz
  revert h;refine bT 1 [] 0 [] (Wq ?_);intro h;intros;refine Tr.block ?_;refine gy h (ctr+2) [(2,1),(1,1),(2,8)] [(4,1)] (λv u1=>Fa [(7,vi v)] []) dN (λv dQ iN iG f ht hu hp h=>?_);refine aZ ?_;refine Wi 12 0 h (sT (sC sB)) (p8 _) λv1 Yr=>?_;refine Wk [] 0 [] Wz

theorem Aw t' r (h:qM t'=some r):Pf 15 [oC aj t'] (jK aj r):=by
  unfold qM at h;refine bf Tryz.func15 λctr hc=>?_;refine aZ ?_;refine Wo 30 0 (Vg t'.fS) λv h1=>?_;refine Wk [] 0 [] Wz

end Go.Vx
