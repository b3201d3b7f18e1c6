/- Walks, by program (lift5.py): the code does what the lifted functions say. -/
import Derived.Test.YtmpgicplgjmjkaaGreatDoorTWb2
import Derived.Test.YtmpgicplgjmjkaaGreatDoorTWb3
import Derived.Test.YtmpgicplgjmjkaaGreatDoorTWb4
set_option linter.all false
namespace Go.Vx
open Go.Proofs
set_option maxRecDepth 100000
set_option maxHeartbeats 8000000
set_option linter.unusedVariables false
set_option linter.unusedSimpArgs false
attribute [local irreducible] chk aA au aO oH

theorem Vh s base bitSize r (h:DL s base bitSize=some r):Pf 298 [vs s,vi base,vi bitSize] (.jO 2 (λj=>match j with|0=>(.v (.int .u64 r.1))|1=>(.v .nilIface)|_=>.junk)):=by
  unfold DL at h;refine bf Tryz.func298 λctr hc=>?_;revert h;refine bT 4 [] 0 [] (Wq ?_);intro h;intros;refine bR h (ctr+4) [(0,2),(4,2),(16,52)] [] (λ_ u=>Fa [(0,vs s),(1,vi base)] []) (λx uc ug ut ht hu hp h=>?_) (λf h=>?_)
  . refine bR h uc [(2,1),(3,2),(68,9)] [] (λ_ u1=>Fa [(2,vi bitSize)] []) (λx dQ iN iG ht hu hp h=>?_) (λf h=>?_)
    . revert h;refine bT 1 [] 0 [] (Wq ?_);intro h;intros;refine bR h (dQ+1) [(10,1),(74,9)] [] (λ_ u2=>Fa [(10,.v (.int .u64 1152921504606846976))] []) (λx lD qW pU ht hu hp h=>?_) (λf h=>?_)
      . revert h;refine bT 3 [] 0 [] (Wq ?_);intro h;intros;refine bR h (lD+3) [(6,2),(4,2),(1,3),(80,66)] [] (λn u3=>Fa [(12,vb false),(13,.v (.int .u64 n))] []) (λn oV BD zT ht hu hp h=>?_) (λf h=>?_)
        . refine aZ ?_;refine om 167 0 h sB (Qn _) λv h21=>?_;refine Wk [] 0 [] Wz
        revert h;refine bT 1 [] 0 [] (Wq ?_);intro h;intros;refine Tr.block ?_;refine gy h (lD+4) [(6,2),(4,2),(1,3),(81,1),(1,63)] [] (λ(n1,v1) u4=>Fa [(12,vb false),(13,.v (.int .u64 n1)),(99,Lu aj (aj.bys s)),(101,vi v1)] []) dN (λx yN MQ JN f ht hu hp h=>?_);obtain⟨_,_⟩:=x;try dsimp only at hp h
        revert h;refine bT 2 [] 0 [] (Wq ?_);intro h;intros;refine bR h (yN+1) [(6,2),(4,2),(1,3),(85,60)] [] (λn2 u5=>Fa [(12,vb false),(13,.v (.int .u64 n2))] []) (λn2 NK XU UN ht hu hp h=>?_) (λf h=>?_)
        . refine Wx [] 0 [] Wz
        refine Tr.block ?_;revert h;refine bT 2 [] 0 [] (Wq ?_);intro h;intros;refine bR h (yN+3) [(6,2),(4,1),(3,1),(88,29)] [] (λd' u6=>Fa [(12,vb false),(16,vu d')] []) (λd' Zf u6g u6t ht hu hp h=>?_) (λf h=>?_)
        . refine Wx [] 0 [] Wz
        refine aZ ?_;refine Wi 123 0 h (sF (sF sB)) (Qj _) λv2 h58=>?_;refine om 127 0 h (sF (sF (sK v2 sB))) (Qj _) λv3 h59=>?_;refine Wod 131 0 h58 ?_;refine Wk [] 0 [] Wz
      refine Wx [] 0 [] Wz
    refine Wx [] 0 [] Wz
  refine Wx [] 0 [] Wz

theorem WL s base bitSize r (h:E8 s base bitSize=some r):Pf 201 [vs s,vi base,vi bitSize] (.jO 2 (λj=>match j with|0=>(vi r.1)|1=>(.v .nilIface)|_=>.junk)):=by
  unfold E8 at h;refine bf Tryz.func201 λctr hc=>?_;revert h;refine bT 3 [] 0 [] (Wq ?_);intro h;intros;refine bR h (ctr+3) [(0,1),(7,1),(6,10)] [] (λ_ u=>Fa [(0,vs s),(8,vb false)] []) (λx uc ug ut ht hu hp h=>?_) (λf h=>?_)
  . refine aZ ?_;refine Wi 29 0 h sB (Vh _ _ _) λv h2=>?_;obtain⟨_,_⟩:=v;refine Wk [] 0 [] Wz
  refine Wx [] 0 [] Wz

theorem Ox l' mH tF p' r (h:Ec l' mH tF p'=some r) (Cb:Int) (aqY:ah l'=Cb) (pV:Bool):lK Tryz.prog 292 [.vec 0 0 7 mH tF,jN aj p'] [jQ aj 0 Cb pV l'] [jQ aj 0 Cb pV r] (.jO 0 (λ_=>.junk)):=by
  unfold Ec at h;refine QX Tryz.func292 (tC Tryz.f292) λctr hc=>?_;replace h:=jC h;obtain⟨h10,h⟩:=h;revert h;refine bT 2 [] 1 [] (Wq ?_);intro h;intros;refine Tr.block ?_;refine gy h (ctr+2) [(4,1),(2,9)] [(0,1)] (λ(v,iE) u=>⟨[(7,vi v)],[(0,jQ aj (0) Cb (pV) iE)],λ_=>ah iE=Cb⟩) dN (λx uc ug ut f ht hu hp h=>?_);obtain⟨_,_⟩:=x;try dsimp only at hp h
  refine aZ ?_;refine Wo 14 0 (Zz p') λv1 h7=>?_;refine Wk [] 1 [] Wz

theorem adQ w p' r (h:OM w p'=some r):Pf 334 [vi w,jN aj p'] (gH aj r):=by
  unfold OM at h;refine bf Tryz.func334 λctr hc=>?_;refine aZ ?_;refine Wo 7 0 (aja w) λv1 h5=>?_;refine Wkc 2 [] 0 [] h ctr [(3,6)] [(3,2),(3,1)] (λl' u=>Fa [(3,.fq 3 (u.g 3) 0),(4,.fq 4 (u.g 4) 0),(5,.vec 8 (u.g 8) 7 0 (aj.len l'))] [(3,.box (u.g 3) [vi p'.jy,vi p'.jq,vi p'.dI]),(4,.box (u.g 4) [.dX,vb false,vi 0,vb false]),(8,jQ aj (u.g 8) (aj.len l') (u.t 8) l')]) (λl' uc ug ut ht hu hp h=>?_) (λf h=>Wz);refine aZ ?_;refine DV 11 (λr h=>Ox l' 0 (ah l') p' r h ((aj.len l')) Wy (ut 8)) λv h3=>?_;refine Wk [] 0 [] Wz

theorem aef s c' r (h:Dt s c'=some r):Pf 205 [iJ aj s,vu c'] (.jO 2 (λj=>match j with|0=>(iJ aj r.1)|1=>(tu aj r.2)|_=>.junk)):=by
  obtain⟨_,_,_,⟨_,_⟩,_,_⟩:=s;unfold Dt at h;try dsimp only at h
  refine bf Tryz.func205 λctr hc=>?_;refine aZ ?_;refine Wi 10 0 h (sT sB) (AR _ _ _) λv h1=>?_;revert h;refine kK 2 [999] 0 [] (Wq ?_);intro h;intros;refine bR h (ctr+2) [(5,1),(5,19)] [] (λ_ u=>Fa [] []) (λx uc ug ut ht hu hp h=>?_) (λf h=>?_)
  . refine Wx [38,999] 0 [] Wz
  revert h;refine bT 1 [999] 0 [] (Wq ?_);intro h;intros;refine uY h rfl (λ_ h=>?_) (λ_ h=>?_)
  . refine Wx [999] 0 [] Wz
  refine Wx [999] 0 [] Wz

theorem acE s c' r (h:Bh s c'=some r):Pf 206 [iJ aj s,vu c'] (.jO 2 (λj=>match j with|0=>(iJ aj r.1)|1=>(tu aj r.2)|_=>.junk)):=by
  obtain⟨q,q1,q2,⟨q3,q4⟩,q5,q6⟩:=s;unfold Bh at h;try dsimp only at h
  refine bf Tryz.func206 λctr hc=>?_;refine aZ ?_;refine Wi 13 0 h (sT sB) (AR _ _ _) λv h1=>?_;refine Wi 19 0 h (sF (sT sB)) (NV _ _) λv1 h2=>?_;obtain⟨⟨_,_,_,⟨_,_⟩,_,_⟩,_⟩:=v1;refine Wo 27 0 (afo ⟨q3,q4⟩) λv2 h3=>?_;refine Wo 34 0 (ag2 ⟨q3,q4⟩) λv3 h4=>?_;refine Wo 42 0 (adM ⟨q3,q4⟩ c') λv4 h5=>?_;refine Wo 50 0 (AR ⟨q,q1,q2,⟨q3,q4⟩,q5,q6⟩ c' 4) λv5 h6=>?_;refine Wk [] 0 [] Wz

theorem acs s c' r (h:Bj s c'=some r):Pf 104 [iJ aj s,vu c'] (.jO 2 (λj=>match j with|0=>(iJ aj r.1)|1=>(tu aj r.2)|_=>.junk)):=by
  obtain⟨_,_,_,⟨_,_⟩,_,_⟩:=s;unfold Bj at h;try dsimp only at h
  refine bf Tryz.func104 λctr hc=>?_;revert h;refine bT 1 [] 0 [] (Wq ?_);intro h;intros;refine bR h (ctr+1) [(5,43)] [] (λ_ u=>Fa [] []) (λx uc ug ut ht hu hp h=>?_) (λf h=>?_)
  . refine aZ ?_;refine Wi 51 1 h sB (SH _) λv h5=>?_;refine Wk [] 0 [] Wz
  revert h;refine bT 1 [] 0 [] (Wq ?_);intro h;intros;refine Tr.block ?_;refine bR h (ctr+2) [(8,3)] [] (λv1 u1=>Fa [(8,vb v1)] []) (λv1 dQ iN iG ht hu hp h=>?_) (λf h=>?_)
  . refine uY h rfl (λ_ h=>?_) (λ_ h=>?_)
    . refine aZ ?_;refine Wi 13 0 h sB (aef _ _) λv2 h6=>?_;obtain⟨⟨_,_,_,⟨_,_⟩,_,_⟩,_⟩:=v2;refine Wk [] 0 [] Wz
    refine bR h dQ [(16,3)] [] (λv3 u2=>Fa [(16,vb v3)] []) (λv3 lD qW pU ht hu hp h=>?_) (λf h=>?_)
    . refine aZ ?_;refine Wi 21 0 h (sT sB) (acE _ _) λv4 h7=>?_;obtain⟨⟨_,_,_,⟨_,_⟩,_,_⟩,_⟩:=v4;refine Wi 31 0 h (sF (sT (sT sB))) (AR _ _ _) λv5 h8=>?_;refine Wi 39 0 h (sF (sT (sF (sF sB)))) (NV _ _) λv6 h9=>?_;obtain⟨⟨_,_,_,⟨_,_⟩,_,_⟩,_⟩:=v6;refine Wk [] 0 [] Wz
    refine Wx [] 0 [] Wz
  refine Wx [] 0 [] Wz

theorem ai6 d' r' r (h:Hf d' r'=some r):Pf 109 [dF aj d',vi r'] (vi r):=by
  unfold Hf at h;refine bf Tryz.func109 λctr hc=>?_;refine aZ ?_;refine Wi 9 0 h sB (Nw _ _) λv h1=>?_;refine Wk [] 0 [] Wz

theorem Zt s at' n r (h:G8 s at' n=some r):Pf 227 [nC aj s,vi at',vi n] (vi r):=by
  obtain⟨q,q1⟩:=s;unfold G8 at h;try dsimp only at h
  refine bf Tryz.func227 λctr hc=>?_;refine aZ ?_;refine Wo 10 0 (zF ⟨q,q1⟩) λv h1=>?_;revert h;refine kK 4 [] 0 [] (Wq ?_);intro h;intros;refine bR h (ctr+4) [(1,1),(6,1),(10,12)] [] (λKC u=>Fa [(1,vi KC)] []) (λKC uc ug ut ht hu hp h=>?_) (λf h=>?_)
  . refine Wx [] 0 [] Wz
  revert h;refine bT 1 [] 0 [] (Wq ?_);intro h;intros;refine Tr.block ?_;refine gy h (ctr+5) [(1,1),(6,1),(10,12)] [] (λ(GK,i) u1=>Fa [(1,vi GK),(8,vi i)] []) dN (λx dQ iN iG f ht hu hp h=>?_);obtain⟨GK,_⟩:=x;try dsimp only at hp h
  refine aZ ?_;refine Wo 30 4 (afJ GK ⟨q,q1⟩) λv1 h11=>?_;refine Wk [] 0 [] Wz

theorem Fb s u u1 r (h:rG s u u1=some r):Pf 130 [aV aj s,dF aj u,gG aj u1] (aV aj r):=by
  obtain⟨⟨⟨q⟩,⟨q1,q2,q3,q4,⟨q5,q6,q7⟩,⟨⟨q8,q9,BG,BH⟩,BI,BJ,EX⟩⟩,⟨zG,q16,yO,wO⟩,⟨JO,JQ⟩,⟨Df,q22⟩,Hr,q24⟩,⟨⟨Hz⟩,⟨JR,NM,Rn,Ro,⟨NJ,Rq,q32⟩,⟨⟨Rt,Rw,Rx,Ry⟩,Rz,RA,RB⟩⟩,⟨NN,NP,NQ,NR⟩,⟨RD,RF⟩,⟨RG,RH⟩,RI,RJ⟩,RL,⟨U7⟩,⟨⟨RN,RO,RP,RQ,⟨RU,RV,RX⟩,⟨⟨RY,RZ,R4,R5⟩,R6,R7,R8⟩⟩,⟨NS,R9,Sd,Si,⟨Sj,Sl,Sm⟩,⟨⟨Sn,Sr,Sv,Sz⟩,SA,SB,SC⟩⟩⟩,SE,SF,NT⟩:=s;unfold rG at h;try dsimp only at h
  refine bf Tryz.func130 λctr hc=>?_;refine aZ ?_;refine Wi 9 0 h sB (eD _) λv h1=>?_;obtain⟨⟨_⟩,⟨_,_,_,_,⟨_,_,_⟩,⟨⟨_,_,_,_⟩,_,_,_⟩⟩,⟨_,_,_,_⟩,⟨_,_⟩,⟨_,_⟩,_,_⟩:=v;refine Wo 11 0 (Jd ⟨⟨⟨q⟩,⟨q1,q2,q3,q4,⟨q5,q6,q7⟩,⟨⟨q8,q9,BG,BH⟩,BI,BJ,EX⟩⟩,⟨zG,q16,yO,wO⟩,⟨JO,JQ⟩,⟨Df,q22⟩,Hr,q24⟩,⟨⟨Hz⟩,⟨JR,NM,Rn,Ro,⟨NJ,Rq,q32⟩,⟨⟨Rt,Rw,Rx,Ry⟩,Rz,RA,RB⟩⟩,⟨NN,NP,NQ,NR⟩,⟨RD,RF⟩,⟨RG,RH⟩,RI,RJ⟩,RL,⟨U7⟩,⟨⟨RN,RO,RP,RQ,⟨RU,RV,RX⟩,⟨⟨RY,RZ,R4,R5⟩,R6,R7,R8⟩⟩,⟨NS,R9,Sd,Si,⟨Sj,Sl,Sm⟩,⟨⟨Sn,Sr,Sv,Sz⟩,SA,SB,SC⟩⟩⟩,SE,SF,NT⟩) λv1 h2=>?_;revert h;refine kK 3 [13] 0 [] (Wq ?_);intro h;intros;refine bR h (ctr+3) [(16,18)] [(7,1)] (λx' u2=>Fa [] [(7,.box (ctr+1) (cellsOf 25 λj=>(og aj x' j)))]) (λx' lD qW pU ht hu hp h=>?_) (λf h=>?_)
  . refine aZ ?_;refine Wi 36 0 h sB (jc _ _) λv2 h4=>?_;refine Wk [] 0 [] Wz
  refine Wx [] 0 [] Wz

theorem afD s u u1 r (h:Fq s u u1=some r):Pf 132 [aV aj s,dF aj u,gG aj u1] (aV aj r):=by
  unfold Fq at h;refine bf Tryz.func132 λctr hc=>?_;refine aZ ?_;refine Wo 13 0 (eD s) λv h1=>?_;obtain⟨⟨q⟩,⟨_,_,_,_,⟨_,_,_⟩,⟨⟨_,_,_,_⟩,_,_,_⟩⟩,⟨_,_,_,_⟩,⟨_,_⟩,⟨_,_⟩,_,_⟩:=v;revert h;refine kK 3 [] 0 [] (Wq ?_);intro h;intros;refine bR h (ctr+3) [(9,3),(7,32)] [(18,1)] (λrows u2=>⟨[],[(18,kT aj (ctr+2) (aj.len q) (u2.t 18) rows)],λ_=>ah rows=(ah q)⟩) (λrows lD qW pU ht hu hp h=>?_) (λf h=>?_)
  . try dsimp only at hp h
    refine aZ ?_;refine Wi 56 0 h sB (Jj _) λv1 h19=>?_;refine Wi 62 0 h (sK v1 sB) (KN _) λv2 h20=>?_;refine Wo 63 0 (jc s v2) λv3 h21=>?_;refine Wk [] 0 [(15,[.freeze (.slot 8)])] Wz
  revert h;refine bT 1 [] 0 [] (Wq ?_);intro h;intros;refine Tr.block ?_;refine gy h (ctr+4) [(9,3),(11,28)] [(18,1)] (λ(v4,adH) u3=>⟨[(23,vi v4)],[(18,kT aj (ctr+2) (aj.len q) (u3.t 18) adH)],λ_=>ah adH=(ah q)⟩) dN (λx oV BD zT f ht hu hp h=>?_);obtain⟨v4,_⟩:=x;try dsimp only at hp h
  revert h;refine bT 2 [] 0 [] (Wq ?_);intro h;intros;refine bR h (oV+1) [(9,3),(13,25)] [(10,1),(7,1)] (λadI u4=>⟨[],[(18,kT aj (ctr+2) (aj.len q) (u4.t 18) adI)],λ_=>ah adI=(ah q)⟩) (λadI yN MQ JN ht hu hp h=>?_) (λf h=>?_)
  . try dsimp only at hp h
    refine Wx [] 0 [] Wz
  refine Tr.block ?_;revert h;refine bT 3 [] 0 [] (Wq ?_);intro h;intros;refine bR h (oV+4) [(11,1),(22,12)] [(32,1)] (λo u5=>⟨[],[(32,jQ aj (oV+3) (aj.len (aj.get aH q v4).aN) (u5.t 32) o)],λ_=>ah o=(ah (aB aH q v4).aN)⟩) (λo NK XU UN ht hu hp h=>?_) (λf h=>?_)
  . try dsimp only at hp h
    refine Wx [] 0 [(13,[.freeze (.cell 10 0)])] Wz
  revert h;refine bT 1 [] 0 [] (Wq ?_);intro h;intros;refine Tr.block ?_;refine gy h (oV+5) [(11,1),(25,9)] [(32,1)] (λ(v5,o1) u6=>⟨[(37,vi v5)],[(32,jQ aj (oV+3) (aj.len (aj.get aH q v4).aN) (u6.t 32) o1)],λ_=>ah o1=(ah (aB aH q v4).aN)⟩) dN (λx Zf u6g u6t f ht hu hp h=>?_);obtain⟨_,_⟩:=x;try dsimp only at hp h
  refine Wx [] 0 [] Wz

theorem GR f' r (h:qQ f'=some r):Pf 133 [(.fn (.func (aj.fF f')) (aj.fK f') (aj.fC f'))] ((.fn (.func (aj.fF r)) (aj.fK r) (aj.fC r))):=by
  unfold qQ at h;refine bf Tryz.func133 λctr hc=>?_;refine aZ ?_;refine Wi 4 6 h sB (gY _) λv h1=>?_;refine Wk [] 0 [] Wz

theorem uq dy dx begin r (h:lH dy dx begin=some r):Pf 136 [vi dy,vi dx,vb begin] ((.fn (.func (aj.fF r)) (aj.fK r) (aj.fC r))):=by
  unfold lH at h;refine bf Tryz.func136 λctr hc=>?_;refine aZ ?_;refine Wi 8 6 h sB (GR _) λv h1=>?_;refine Wk [] 0 [] Wz

theorem Ve t' r (h:BM t'=some r):Pf 28 [jK aj t'] (jK aj r):=by
  obtain⟨⟨_⟩,⟨_,_,_,⟨_,_⟩,_,_⟩,⟨⟨⟨_⟩,⟨_,_,_,_,⟨_,_,_⟩,⟨⟨_,_,_,_⟩,_,_,_⟩⟩,⟨_,_,_,_⟩,⟨_,_⟩,⟨_,_⟩,_,_⟩,⟨⟨_⟩,⟨_,_,_,_,⟨_,_,_⟩,⟨⟨_,_,_,_⟩,_,_,_⟩⟩,⟨_,_,_,_⟩,⟨_,_⟩,⟨_,_⟩,_,_⟩,_,⟨_⟩,⟨⟨_,_,_,_,⟨_,_,_⟩,⟨⟨_,_,_,_⟩,_,_,_⟩⟩,⟨_,_,_,_,⟨_,_,_⟩,⟨⟨_,_,_,_⟩,_,_,_⟩⟩⟩,_,_,_⟩,_⟩:=t';unfold BM at h;try dsimp only at h
  refine bf Tryz.func28 λctr hc=>?_;refine aZ ?_;refine Wi 6 0 h sB (Qe _) λv h1=>?_;obtain⟨_,_⟩:=v;refine Wk [] 0 [] Wz

theorem akq x' r (h:bits_Len x'=some r):Pf 451 [(.v (.int .u64 x'))] (vi r):=by
  unfold bits_Len at h;refine bf Tryz.func451 λctr hc=>?_;refine aZ ?_;refine Wo 7 0 (ahi x') λv h1=>?_;refine Wk [] 0 [] Wz

theorem GV data a b limit cmp r (h:ru data a b limit cmp=some r):Pf 450 [Am aj data,vi a,vi b,vi limit,(.fn (.func (aj.fF cmp)) (aj.fK cmp) (aj.fC cmp))] (.jO 0 (λ_=>.junk)):=by
  unfold ru at h;refine bf Tryz.func450 λctr hc=>?_;revert h;refine bT 2 [] 0 [] (Wq ?_);intro h;intros;refine Tr.block ?_;refine gy h (ctr+2) [(1,3),(6,138)] [] (λ_ u=>Fa [(1,vi a),(2,vi b),(3,vi limit),(10,vb true),(11,vb true)] []) dN (λx uc ug ut f ht hu hp h=>?_);refine Tr.block ?_;refine aZ ?_;refine Wo 30 0 (Cj data a b cmp) λv h4=>?_;refine Wkp 3 [] 0 [] Wz

theorem EF x' cmp r (h:pE x' cmp=some r):Pf 444 [Am aj x',(.fn (.func (aj.fF cmp)) (aj.fK cmp) (aj.fC cmp))] (.jO 0 (λ_=>.junk)):=by
  unfold pE at h;refine bf Tryz.func444 λctr hc=>?_;refine aZ ?_;refine Wi 11 0 h sB (akq _) λv h1=>?_;refine Wo 13 0 (GV x' 0 (ah x') v cmp) λv1 h2=>?_;refine Wk [] 0 [] Wz

theorem afM levels widths r (h:Ug levels widths=some r):Pf 341 [Li aj levels,Li aj widths] (.jO 2 (λj=>match j with|0=>(Li aj r.1)|1=>(vb r.2)|_=>.junk)):=by
  unfold Ug at h;refine bf Tryz.func341 λctr hc=>?_;revert h;refine bT 4 [] 0 [] (Wq ?_);intro h;intros;refine bR h (ctr+4) [(4,2),(1,3),(12,21)] [(21,1)] (λ(n,starts) u=>⟨[(7,vi n)],[(21,Ri aj (ctr+2) (aj.len widths) (u.t 21) starts)],λ_=>ah starts=(ah widths)⟩) (λx uc ug ut ht hu hp h=>?_) (λf h=>?_)
  . obtain⟨_,_⟩:=x;try dsimp only at hp h
    revert h;refine bT 1 [] 0 [] (Wq ?_);intro h;intros;refine bR h (uc+1) [(10,1),(1,2),(31,25)] [(44,1),(1,1)] (λout u1=>Fa [(10,.vec 44 (u1.g 44) 1 0 (aj.len out))] [(44,Ri aj (u1.g 44) (aj.len out) (u1.t 44) out)]) (λout dQ iN iG ht hu hp h=>?_) (λf h=>?_)
    . refine Wx [] 0 [] Wz
    refine aZ ?_;refine Wo 46 1 (aec levels) λv h34=>?_;revert h;refine kK 1 [] 0 [] (Wq ?_);intro h;intros;refine Tr.block ?_;refine gy h (uc+2) [(10,1),(1,2),(34,22)] [(44,1)] (λ(v1,aX) u2=>Fa [(10,.vec 44 (u2.g 44) 1 0 (aj.len aX)),(48,vi v1)] [(44,Ri aj (u2.g 44) (aj.len aX) (u2.t 44) aX)]) dN (λx lD qW pU f ht hu hp h=>?_);obtain⟨_,_⟩:=x;try dsimp only at hp h
    revert h;refine bT 2 [] 0 [] (Wq ?_);intro h;intros;refine bR h (lD+1) [(10,1),(1,2),(36,19)] [(44,1)] (λl9 u3=>Fa [(10,.vec 44 (u3.g 44) 1 0 (aj.len l9))] [(44,Ri aj (u3.g 44) (aj.len l9) (u3.t 44) l9)]) (λl9 oV BD zT ht hu hp h=>?_) (λf h=>?_)
    . refine Wx [] 0 [] Wz
    refine Tr.block ?_;revert h;refine bT 2 [] 0 [] (Wq ?_);intro h;intros;refine Tr.block ?_;refine gy h (lD+3) [(10,1),(2,1),(42,13)] [(44,1),(22,1)] (λ(v2,nT) u4=>Fa [(10,.vec 44 (u4.g 44) 1 0 (aj.len nT)),(56,vi v2)] [(44,Ri aj (u4.g 44) (aj.len nT) (u4.t 44) nT)]) dN (λx yN MQ JN f ht hu hp h=>?_);obtain⟨_,_⟩:=x;try dsimp only at hp h
    refine Wx [66] 0 [] Wz
  revert h;refine bT 1 [] 0 [] (Wq ?_);intro h;intros;refine Tr.block ?_;refine gy h (ctr+5) [(4,2),(1,3),(14,19)] [(21,1)] (λ(n1,v3,UJ) u5=>⟨[(7,vi n1),(24,vi v3)],[(21,Ri aj (ctr+2) (aj.len widths) (u5.t 21) UJ)],λ_=>ah UJ=(ah widths)⟩) dN (λx NK XU UN f ht hu hp h=>?_);obtain⟨_,_,_⟩:=x;try dsimp only at hp h
  refine Wx [] 0 [] Wz

theorem akk cells levels widths base r (h:acd cells levels widths base=some r):Pf 284 [Ao aj cells,Li aj levels,Li aj widths,vi base] (FJ aj r):=by
  unfold acd at h;refine bf Tryz.func284 λctr hc=>?_;refine aZ ?_;refine Wi 17 0 h sB (afM _ _) λv h1=>?_;obtain⟨q,_⟩:=v;refine Wo 24 0 (aee q) λv1 h2=>?_;obtain⟨_,_⟩:=v1;revert h;refine kK 5 [] 0 [] (Wq ?_);intro h;intros;refine bR h (ctr+5) [(10,2),(21,17)] [(31,1)] (λo u=>⟨[],[(31,jQ aj (ctr+4) (aj.len q) (u.t 31) o)],λ_=>ah o=(ah q)⟩) (λo uc ug ut ht hu hp h=>?_) (λf h=>?_)
  . try dsimp only at hp h
    refine Wx [] 0 [] Wz
  revert h;refine bT 1 [] 0 [] (Wq ?_);intro h;intros;refine Tr.block ?_;refine gy h (ctr+6) [(10,2),(24,14)] [(31,1)] (λ(v2,o1) u1=>⟨[(36,vi v2)],[(31,jQ aj (ctr+4) (aj.len q) (u1.t 31) o1)],λ_=>ah o1=(ah q)⟩) dN (λx dQ iN iG f ht hu hp h=>?_);obtain⟨_,_⟩:=x;try dsimp only at hp h
  refine Wx [] 0 [] Wz

theorem afB x' at' r (h:Uh x' at'=some r):Pf 43 [FJ aj x',vi at'] (vi r):=by
  unfold Uh at h;refine bf Tryz.func43 λctr hc=>?_;refine aZ ?_;refine Wi 8 0 h sB (ahj _ _) λv h1=>?_;refine Wk [] 0 [] Wz

theorem JY s r (h:rE s=some r):Pf 38 [pJ aj s] (vb r):=by
  obtain⟨⟨q⟩,⟨_,_,_,_,⟨_,_,_⟩,⟨⟨_,_,_,_⟩,_,_,_⟩⟩,⟨_,_,_,_⟩,⟨_,_⟩,⟨Df,_⟩,_,_⟩:=s;unfold rE at h;try dsimp only at h
  refine bf Tryz.func38 λctr hc=>?_;refine aZ ?_;refine Wo 6 0 (JX q) λv h1=>?_;refine uh 11 0 v (JX Df) false λv1 h2=>?_;refine Wk [] 0 [] Wz

theorem Yf s r (h:vS s=some r):Pf 13 [qw aj s] (vb r):=by
  obtain⟨⟨⟨q⟩,⟨_,_,_,_,⟨_,_,_⟩,⟨⟨_,_,_,_⟩,_,_,_⟩⟩,⟨_,_,_,_⟩,⟨_,_⟩,⟨_,_⟩,_,_⟩,⟨⟨Hz⟩,⟨_,_,_,_,⟨_,_,_⟩,⟨⟨_,_,_,_⟩,_,_,_⟩⟩,⟨_,_,_,_⟩,⟨_,_⟩,⟨_,_⟩,_,_⟩,_,⟨_⟩,⟨⟨_,_,_,_,⟨_,_,_⟩,⟨⟨_,_,_,_⟩,_,_,_⟩⟩,⟨_,_,_,_,⟨_,_,_⟩,⟨⟨_,_,_,_⟩,_,_,_⟩⟩⟩,_,_,_⟩:=s;unfold vS at h;try dsimp only at h
  refine bf Tryz.func13 λctr hc=>?_;refine aZ ?_;refine Wo 7 0 (HV q) λv h1=>?_;refine uh 13 0 v (HV Hz) false λv1 h2=>?_;refine om 18 0 h (sK v (sK v1 sB)) (JY _) λv2 h3=>?_;refine om 23 0 h (sK v (sK v1 (sK v2 sB))) (JY _) λv3 h4=>?_;refine Wk [] 0 [] Wz

end Go.Vx
