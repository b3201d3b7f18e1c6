/- Walks, by program (lift5.py): the code does what the lifted functions say. -/
import Derived.Test.YtmpgicplgjmjkaaGreatDoorTWb5
import Derived.Test.YtmpgicplgjmjkaaGreatDoorTWb6
import Derived.Test.YtmpgicplgjmjkaaGreatDoorTWb7
import Derived.Test.YtmpgicplgjmjkaaGreatDoorTWb8
set_option linter.all false
namespace Go.Vx
open Go.Proofs
set_option maxRecDepth 100000
set_option maxHeartbeats 8000000
set_option linter.unusedVariables false
set_option linter.unusedSimpArgs false
attribute [local irreducible] chk aA au aO oH

theorem LM l' mH tF w p' r (h:yx l' mH tF w p'=some r) (Cb:Int) (aqY:ah l'=Cb) (pV:Bool):lK Tryz.prog 269 [.vec 0 0 4 mH tF,vi w,jN aj p'] [kT aj 0 Cb pV l'] [kT aj 0 Cb pV r] (.jO 0 (λ_=>.junk)):=by
  unfold yx at h;refine QX Tryz.func269 (tC Tryz.f269) λctr hc=>?_;replace h:=jC h;obtain⟨h10,h⟩:=h;revert h;refine bT 2 [] 1 [] (Wq ?_);intro h;intros;refine Tr.block ?_;refine gy h (ctr+2) [(6,1),(2,10)] [(0,1)] (λ(v,iE) u=>⟨[(9,vi v)],[(0,kT aj (0) Cb (pV) iE)],λ_=>ah iE=Cb⟩) dN (λx uc ug ut f ht hu hp h=>?_);obtain⟨_,_⟩:=x;try dsimp only at hp h
  refine aZ ?_;refine Wo 17 0 (adQ w p') λv1 h7=>?_;refine Wk [] 1 [] Wz

theorem akh h' w p' r (h:Pj h' w p'=some r):Pf 169 [vi h',vi w,jN aj p'] (kW aj r):=by
  unfold Pj at h;refine bf Tryz.func169 λctr hc=>?_;refine Wxc 2 [] 0 [] h ctr [(5,7)] [(5,2),(4,1)] (λ_ u=>Fa [(5,.fq 5 (u.g 5) 0),(6,.fq 6 (u.g 6) 0),(7,.vec 11 (u.g 11) 4 0 ((std Tryz.prog).imax 1 ((std Tryz.prog).wT h' 1000)))] [(5,.box (u.g 5) [vi p'.jy,vi p'.jq,vi p'.dI]),(6,.box (u.g 6) [.dX]),(11,kT aj (u.g 11) ((std Tryz.prog).imax 1 ((std Tryz.prog).wT h' 1000)) (u.t 11) (aj.rep ((std Tryz.prog).imax 1 ((std Tryz.prog).wT h' 1000)) aH))]) (λx uc ug ut ht hu hp h=>?_) (λf h=>Wz);refine aZ ?_;refine DV 15 (λr h=>LM (jX (aY 1 (aP h' 1000)) aH) 0 (aY 1 (aP h' 1000)) w p' r h (((std Tryz.prog).imax 1 ((std Tryz.prog).wT h' 1000))) Wy (ut 11)) λv h2=>?_;refine Wk [] 0 [] Wz

theorem XV h' w kept r (h:xu h' w kept=some r):Pf 65 [vi h',vi w,vi kept] (aS aj r):=by
  unfold xu at h;refine bf Tryz.func65 λctr hc=>?_;refine aZ ?_;refine Wo 12 0 (Nq h' w) λv h1=>?_;obtain⟨⟨_,_,_,_,⟨_,_,_⟩,⟨⟨_,_,_,_⟩,_,_,_⟩⟩,⟨_,_,_,_⟩⟩:=v;refine Wo 18 0 (akh h' w nu) λv1 h2=>?_;refine Wo 22 0 (LP w) λv2 h3=>?_;refine Wo 24 0 (UO kept) λv3 h4=>?_;refine Wk [] 0 [] Wz

theorem xQ s r (h:kN s=some r):Pf 64 [aV aj s] (aV aj r):=by
  unfold kN at h;refine bf Tryz.func64 λctr hc=>?_;refine aZ ?_;refine Wi 6 0 h sB (tJ _ _ _) λv h1=>?_;refine Wk [] 0 [] Wz

theorem aki s at' r (h:OY s at'=some r):Pf 232 [nC aj s,vi at'] (nC aj r):=by
  obtain⟨q,q1⟩:=s;unfold OY at h;try dsimp only at h
  refine bf Tryz.func232 λctr hc=>?_;refine aZ ?_;refine Wo 7 0 (zF ⟨q,q1⟩) λv h1=>?_;refine Wo 9 0 (LP 80) λv1 h2=>?_;refine Wi 21 3 h (sK v (sF (sF sB))) (KI _ _) λv2 h3=>?_;refine Wo 29 3 (KI ⟨q,q1⟩ (FV.int (FV.nil 320) .i64 at')) λv3 h5=>?_;refine Wk [24] 0 [] Wz

theorem afp s u u1 r (h:Fj s u u1=some r):Pf 124 [aV aj s,dF aj u,gG aj u1] (aV aj r):=by
  unfold Fj at h;refine bf Tryz.func124 λctr hc=>?_;refine aZ ?_;refine Wo 9 0 (eD s) λv h1=>?_;refine Wo 15 0 (aki v.fT v.fC.fX) λv1 h2=>?_;refine Wi 19 0 h (sK v (sK v1 sB)) (jc _ _) λv2 h3=>?_;refine Wk [] 0 [] Wz

theorem Yh s at' final r (h:vJ s at' final=some r):Pf 58 [aV aj s,vi at',vu final] (aV aj r):=by
  unfold vJ at h;refine bf Tryz.func58 λctr hc=>?_;refine aZ ?_;refine Wo 9 0 (eD s) λv h1=>?_;refine Wi 15 0 h (sK v sB) (afq _ _ _) λv1 h2=>?_;refine Wi 20 0 h (sK v (sK v1 sB)) (jc _ _) λv2 h3=>?_;refine Wk [] 0 [] Wz

theorem UQ s u a cap0 r (h:sD s u a cap0=some r):Pf 258 [aV aj s,dF aj u,gG aj a,.gX 1 1 (λ_ j=>(vb cap0)) 0 0] (aV aj r):=by
  obtain⟨_,_,_,_,q4,_⟩:=a;unfold sD at h;try dsimp only at h
  refine bf Tryz.func258 λctr hc=>?_;revert h;refine bT 1 [] 0 [] (Wq ?_);intro h;intros;refine bR h (ctr+1) [(8,17)] [(4,1)] (λs1 u1=>Fa [] [(4,.box (ctr+0) (cellsOf 83 λj=>(mO aj s1 j)))]) (λs1 dQ iN iG ht hu hp h=>?_) (λf h=>?_)
  . refine aZ ?_;refine Wo 26 0 (xQ s1) λv h7=>?_;refine Wk [] 0 [] Wz
  revert h;refine bT 1 [] 0 [] (Wq ?_);intro h;intros;refine Tr.block ?_;refine gy h (ctr+2) [(8,1),(3,13)] [(4,1)] (λ(v1,s2) u2=>Fa [(12,vi v1)] [(4,.box (ctr+0) (cellsOf 83 λj=>(mO aj s2 j)))]) dN (λx lD qW pU f ht hu hp h=>?_);obtain⟨v1,s2⟩:=x;try dsimp only at hp h
  refine aZ ?_;refine Wo 20 0 (Gm q4 v1 0) λv2 Yr=>?_;refine Wo 22 0 (Zg s2.fM false v2 cap0) λv3 h15=>?_;refine Wk [] 0 [] Wz

theorem aci s u u1 r (h:Bf s u u1=some r):Pf 164 [aV aj s,dF aj u,gG aj u1] (aV aj r):=by
  obtain⟨⟨⟨q⟩,⟨q1,q2,q3,q4,⟨q5,q6,q7⟩,⟨⟨q8,q9,BG,BH⟩,BI,BJ,EX⟩⟩,⟨zG,q16,yO,wO⟩,⟨JO,JQ⟩,⟨Df,q22⟩,Hr,q24⟩,⟨⟨Hz⟩,⟨JR,NM,Rn,Ro,⟨NJ,Rq,q32⟩,⟨⟨Rt,Rw,Rx,Ry⟩,Rz,RA,RB⟩⟩,⟨NN,NP,NQ,NR⟩,⟨RD,RF⟩,⟨RG,RH⟩,RI,RJ⟩,RL,⟨_⟩,⟨⟨RN,RO,RP,RQ,⟨RU,RV,RX⟩,⟨⟨RY,RZ,R4,R5⟩,R6,R7,R8⟩⟩,⟨NS,R9,Sd,Si,⟨Sj,Sl,Sm⟩,⟨⟨Sn,Sr,Sv,Sz⟩,SA,SB,SC⟩⟩⟩,SE,SF,NT⟩:=s;unfold Bf at h;try dsimp only at h
  refine bf Tryz.func164 λctr hc=>?_;refine aZ ?_;refine Wi 11 0 h sB (eD _) λv h1=>?_;refine Wo 19 0 (Nq v.fR.fH v.fR.fW) λv1 h2=>?_;obtain⟨⟨q83,q84,q85,q86,⟨Zh,Zi,Zj⟩,⟨⟨Zk,XQ,q92,q93⟩,q94,q95,q96⟩⟩,⟨q97,q98,q99,aze⟩⟩:=v1;refine Wo 34 0 (Qb) λv2 h3=>?_;refine Wo 37 0 (Jd ⟨⟨⟨q⟩,⟨q1,q2,q3,q4,⟨q5,q6,q7⟩,⟨⟨q8,q9,BG,BH⟩,BI,BJ,EX⟩⟩,⟨zG,q16,yO,wO⟩,⟨JO,JQ⟩,⟨Df,q22⟩,Hr,q24⟩,⟨⟨Hz⟩,⟨JR,NM,Rn,Ro,⟨NJ,Rq,q32⟩,⟨⟨Rt,Rw,Rx,Ry⟩,Rz,RA,RB⟩⟩,⟨NN,NP,NQ,NR⟩,⟨RD,RF⟩,⟨RG,RH⟩,RI,RJ⟩,RL,v2,⟨⟨RN,RO,RP,RQ,⟨RU,RV,RX⟩,⟨⟨RY,RZ,R4,R5⟩,R6,R7,R8⟩⟩,⟨NS,R9,Sd,Si,⟨Sj,Sl,Sm⟩,⟨⟨Sn,Sr,Sv,Sz⟩,SA,SB,SC⟩⟩⟩,SE,SF,NT⟩) λv3 h4=>?_;refine Wo 43 0 (jc ⟨⟨⟨q⟩,⟨q1,q2,q3,q4,⟨q5,q6,q7⟩,⟨⟨q8,q9,BG,BH⟩,BI,BJ,EX⟩⟩,⟨zG,q16,yO,wO⟩,⟨JO,JQ⟩,⟨Df,q22⟩,Hr,q24⟩,⟨⟨Hz⟩,⟨JR,NM,Rn,Ro,⟨NJ,Rq,q32⟩,⟨⟨Rt,Rw,Rx,Ry⟩,Rz,RA,RB⟩⟩,⟨NN,NP,NQ,NR⟩,⟨RD,RF⟩,⟨RG,RH⟩,RI,RJ⟩,RL,v2,⟨⟨(if (v3==0)=true then q83 else RN),(if (v3==0)=true then q84 else RO),(if (v3==0)=true then q85 else RP),(if (v3==0)=true then q86 else RQ),⟨(if (v3==0)=true then Zh else RU),(if (v3==0)=true then Zi else RV),(if (v3==0)=true then Zj else RX)⟩,⟨⟨(if (v3==0)=true then Zk else RY),(if (v3==0)=true then XQ else RZ),(if (v3==0)=true then q92 else R4),(if (v3==0)=true then q93 else R5)⟩,(if (v3==0)=true then q94 else R6),(if (v3==0)=true then q95 else R7),(if (v3==0)=true then q96 else R8)⟩⟩,⟨(if (!(v3==0))=true then q83 else NS),(if (!(v3==0))=true then q84 else R9),(if (!(v3==0))=true then q85 else Sd),(if (!(v3==0))=true then q86 else Si),⟨(if (!(v3==0))=true then Zh else Sj),(if (!(v3==0))=true then Zi else Sl),(if (!(v3==0))=true then Zj else Sm)⟩,⟨⟨(if (!(v3==0))=true then Zk else Sn),(if (!(v3==0))=true then XQ else Sr),(if (!(v3==0))=true then q92 else Sv),(if (!(v3==0))=true then q93 else Sz)⟩,(if (!(v3==0))=true then q94 else SA),(if (!(v3==0))=true then q95 else SB),(if (!(v3==0))=true then q96 else SC)⟩⟩⟩,SE,SF,NT⟩ ⟨v.fG,⟨v.fC.fX,v.fC.fY,v.fC.dz,false,⟨Zh,Zi,Zj⟩,⟨⟨Zk,XQ,q92,q93⟩,q94,q95,q96⟩⟩,⟨q97,q98,q99,aze⟩,v.fT,v.fK,v.dH,v.bA⟩) λv4 h6=>?_;refine Wo 44 0 (xQ v4) λv5 h7=>?_;refine Wk [40,999] 0 [] Wz

theorem ag3 d' r' l' r (h:WB d' r' l'=some r):Pf 425 [dF aj d',Li aj r',Li aj l'] (alO aj r):=by
  unfold WB at h;refine bf Tryz.func425 λctr hc=>?_;revert h;refine bT 4 [] 0 [] (Wq ?_);intro h;intros;refine bR h (ctr+4) [(6,8),(5,59)] [] (λ_ u=>Fa [(8,.dX)] []) (λx uc ug ut ht hu hp h=>?_) (λf h=>?_)
  . refine aZ ?_;refine Wi 79 0 h sB (EF _ _) λv h5=>?_;refine Wk [] 0 [] Wz
  revert h;refine bT 1 [] 0 [] (Wq ?_);intro h;intros;refine Tr.block ?_;refine gy h (ctr+5) [(6,8),(7,57)] [] (λv1 u1=>Fa [(7,.dX),(8,.dX),(21,vi v1)] []) dN (λv1 dQ iN iG f ht hu hp h=>?_);revert h;refine bT 2 [] 0 [] (Wq ?_);intro h;intros;refine bR h (dQ+1) [(6,8),(9,54)] [] (λ_ u2=>Fa [(7,.dX),(8,.dX)] []) (λx lD qW pU ht hu hp h=>?_) (λf h=>?_)
  . refine Wx [] 0 [] Wz
  refine Tr.block ?_;refine Wxp 4 [] 0 [] Wz

theorem adS d' r' was l' level wN Y5 r (h:PX d' r' was l' level wN Y5=some r):Pf 387 [dF aj d',Li aj r',Li aj was,Li aj l',vi level,vi wN,vi Y5] (Ui aj r):=by
  unfold PX at h;refine bf Tryz.func387 λctr hc=>?_;refine aZ ?_;refine Wo 20 1 (mI l') λv h1=>?_;refine Wo 41 1 (ag3 d' r' l') λv1 h2=>?_;revert h;refine kK 4 [] 0 [] (Wq ?_);intro h;intros;refine bR h (ctr+4) [(43,5)] [] (λ_ u=>Fa [] []) (λx uc ug ut ht hu hp h=>?_) (λf h=>?_)
  . refine bR h uc [(18,1),(22,1),(6,10)] [(16,1),(3,1),(20,1)] (λout u1=>⟨[],[(20,Ri aj (ctr+1) (aj.len v) (u1.t 20) out)],λ_=>ah out=(ah v)⟩) (λout dQ iN iG ht hu hp h=>?_) (λf h=>?_)
    . try dsimp only at hp h
      refine Wx [] 0 [] Wz
    revert h;refine bT 1 [48] 0 [] (Wq ?_);intro h;intros;refine Tr.block ?_;refine Tr.rounds 3 ?_;refine kX h (uc+1) [(18,1),(22,1),(8,8)] [(16,1),(3,1),(20,1)] (λaX u2=>⟨[(50,vi 1)],[(16,.box (ctr+3) [.vec 20 (ctr+1) 1 0 (aj.len v),Li aj was,vi wN,vi Y5,vi 1,vi 2,Am aj v1]),(20,Ri aj (ctr+1) (aj.len v) (u2.t 20) aX)],λ_=>ah aX=(ah v)⟩) (λaX lD qW pU ht hu hp h=>?_) (λf h=>?_)
    . try dsimp only at hp h
      refine kX h lD [(18,1),(31,8)] [(20,1)] (λl9 u3=>⟨[(50,vi 2)],[(20,Ri aj (ctr+1) (aj.len v) (u3.t 20) l9)],λ_=>ah l9=(ah v)⟩) (λl9 oV BD zT ht hu hp h=>?_) (λf h=>?_)
      . try dsimp only at hp h
        refine Wxp 2 [] 0 [] Wz
      revert h;refine bT 2 [] 0 [] (Wq ?_);intro h;intros;refine bR h (lD+1) [(18,1),(33,5)] [(20,1)] (λnT u4=>⟨[],[(20,Ri aj (ctr+1) (aj.len v) (u4.t 20) nT)],λ_=>ah nT=(ah v)⟩) (λnT yN MQ JN ht hu hp h=>?_) (λf h=>?_)
      . try dsimp only at hp h
        refine Wx [] 0 [] Wz
      refine Tr.block ?_;refine bR h (lD+1) [(18,1),(33,2)] [] (λ_ u5=>Fa [(18,.fn (.func 427) 0 (λ_=>.junk))] []) (λx NK XU UN ht hu hp h=>?_) (λf h=>?_)
      . refine aZ ?_;refine DV 56 (λr h=>auG ⟨aX,was,wN,Y5,1,2,v1⟩ r h ((aj.len v)) Wy (pU 20)) λv2 h24=>?_;refine Wk [] 0 [] Wz
      refine Wx [] 0 [] Wz
    revert h;refine bT 2 [] 0 [] (Wq ?_);intro h;intros;refine bR h (uc+2) [(18,1),(22,1),(10,5)] [(16,1),(3,1),(20,1)] (λaiI u6=>⟨[],[(16,.box (ctr+3) [.vec 20 (ctr+1) 1 0 (aj.len v),Li aj was,vi wN,vi Y5,vi 1,vi 2,Am aj v1]),(20,Ri aj (ctr+1) (aj.len v) (u6.t 20) aiI)],λ_=>ah aiI=(ah v)⟩) (λaiI Zf u6g u6t ht hu hp h=>?_) (λf h=>?_)
    . try dsimp only at hp h
      refine Wx [] 0 [] Wz
    refine Tr.block ?_;refine bR h (uc+2) [(18,1),(33,2)] [] (λ_ u7=>Fa [(18,.fn (.func 426) 0 (λ_=>.junk))] []) (λx u7c u7g u7t ht hu hp h=>?_) (λf h=>?_)
    . refine aZ ?_;refine DV 56 (λr h=>awF ⟨v,was,wN,Y5,1,2,v1⟩ r h ((aj.len v)) Wy (false)) λv3 h32=>?_;refine Wk [] 0 [(10,[.freeze (.cell 16 6)])] Wz
    refine Wx [] 0 [] Wz
  refine Wx [] 0 [] Wz

theorem afr d' r' l' base r (h:Ud d' r' l' base=some r):Pf 350 [dF aj d',Li aj r',Li aj l',vi base] (Ui aj r):=by
  unfold Ud at h;refine bf Tryz.func350 λctr hc=>?_;refine aZ ?_;refine Wo 25 0 (aaZ l' base) λv h1=>?_;obtain⟨q,_,_⟩:=v;refine Wo 28 1 (mI q) λv1 h2=>?_;revert h;refine kK 3 [] 0 [] (Wq ?_);intro h;intros;refine bR h (ctr+3) [(12,8),(9,58)] [(28,1),(3,1)] (λout u=>⟨[],[(28,Ri aj (ctr+2) (aj.len v1) (u.t 28) out)],λ_=>ah out=(ah v1)⟩) (λout uc ug ut ht hu hp h=>?_) (λf h=>?_)
  . try dsimp only at hp h
    revert h;refine bT 1 [] 0 [] (Wq ?_);intro h;intros;refine bR h (uc+1) [(20,3),(67,18)] [] (λ_ u1=>Fa [] []) (λx dQ iN iG ht hu hp h=>?_) (λf h=>?_)
    . refine Wx [] 0 [] Wz
    revert h;refine bT 1 [] 0 [] (Wq ?_);intro h;intros;refine Tr.block ?_;refine gy h (uc+2) [(20,3),(70,15)] [] (λ(BA,v2) u2=>Fa [(20,vi BA),(93,vi v2)] []) dN (λx lD qW pU f ht hu hp h=>?_);obtain⟨_,_⟩:=x;try dsimp only at hp h
    refine Wx [] 0 [] Wz
  refine aZ ?_;refine Wi 32 1 h sB (Zl _ _ _) λv3 h58=>?_;revert h;refine kK 1 [] 0 [] (Wq ?_);intro h;intros;refine Tr.block ?_;refine gy h (ctr+4) [(12,8),(14,53)] [(28,1)] (λ(v4,aX) u3=>⟨[(34,vi v4)],[(28,Ri aj (ctr+2) (aj.len v1) (u3.t 28) aX)],λ_=>ah aX=(ah v1)⟩) dN (λx oV BD zT f ht hu hp h=>?_);obtain⟨v4,_⟩:=x;try dsimp only at hp h
  revert h;refine bT 2 [] 0 [] (Wq ?_);intro h;intros;refine bR h (oV+1) [(12,8),(16,50)] [(28,1),(39,1)] (λl9 u4=>⟨[],[(28,Ri aj (ctr+2) (aj.len v1) (u4.t 28) l9)],λ_=>ah l9=(ah v1)⟩) (λl9 yN MQ JN ht hu hp h=>?_) (λf h=>?_)
  . try dsimp only at hp h
    refine Wx [] 0 [] Wz
  refine Tr.block ?_;refine aZ ?_;refine Wi 41 0 h (sC sB) (Zm _ _) λv5 aBk=>?_;refine Wi 54 0 h (sC (sK v5 (sC (sC sB)))) (afs _ _ _ _) λv6 aBl=>?_;obtain⟨q3,q4⟩:=v6;refine Wo 60 0 (Zm r' (aB [] v3 (0+v4))) λv7 aBm=>?_;refine Wo 64 0 (aiT v5 q3) λv8 h122=>?_;refine Wo 68 1 (adS d' v7 v5 v8 (aB 0 q (aB 0 (aB [] v3 (0+v4)) 0)) q3 q4) λv9 aBn=>?_;revert h;refine kK 6 [] 0 [] (Wq ?_);intro h;intros;refine Tr.block ?_;refine gy h (oV+7) [(18,2),(51,15)] [(28,1)] (λ(v10,nT) u5=>⟨[(71,vi v10)],[(28,Ri aj (ctr+2) (aj.len v1) (u5.t 28) nT)],λ_=>ah nT=(ah v1)⟩) dN (λx NK XU UN f ht hu hp h=>?_);obtain⟨_,_⟩:=x;try dsimp only at hp h
  refine aZ ?_;refine Wi 83 0 h (sT (sC (sC sB))) (acj _ _) λv11 aBo=>?_;refine Wk [] 0 [] Wz

theorem WI a b r (h:yR a b=some r):Pf 174 [JH aj a,JH aj b] (vb r):=by
  obtain⟨_,_⟩:=a;obtain⟨_,_⟩:=b;unfold yR at h;try dsimp only at h
  refine bf Tryz.func174 λctr hc=>?_;refine aZ ?_;refine om 15 0 h sB (Je _ _) λv h1=>?_;refine Wk [] 0 [] Wz

theorem Jf a b r (h:qL a b=some r):Pf 68 [pJ aj a,pJ aj b] (vb r):=by
  obtain⟨⟨q⟩,⟨_,_,_,_,⟨_,_,_⟩,⟨⟨_,_,_,_⟩,_,_,_⟩⟩,⟨_,_,_,_⟩,⟨_,_⟩,⟨_,_⟩,_,_⟩:=a;obtain⟨⟨Hz⟩,⟨_,_,_,_,⟨_,_,_⟩,⟨⟨_,_,_,_⟩,_,_,_⟩⟩,⟨_,_,_,_⟩,⟨_,_⟩,⟨_,_⟩,_,_⟩:=b;unfold qL at h;try dsimp only at h
  refine bf Tryz.func68 λctr hc=>?_;refine aZ ?_;refine Wo 11 0 (Je q Hz) λv h1=>?_;refine om 31 0 h (sK v sB) (WJ _ _) λv1 h2=>?_;refine om 38 0 h (sK v (sK v1 sB)) (WI _ _) λv2 h3=>?_;refine Wk [] 0 [] Wz

theorem WK a b r (h:yT a b=some r):Pf 31 [qw aj a,qw aj b] (vb r):=by
  obtain⟨⟨⟨_⟩,⟨_,_,_,_,⟨_,_,_⟩,⟨⟨_,_,_,_⟩,_,_,_⟩⟩,⟨_,_,_,_⟩,⟨_,_⟩,⟨_,_⟩,_,_⟩,⟨⟨_⟩,⟨_,_,_,_,⟨_,_,_⟩,⟨⟨_,_,_,_⟩,_,_,_⟩⟩,⟨_,_,_,_⟩,⟨_,_⟩,⟨_,_⟩,_,_⟩,_,⟨_⟩,⟨⟨_,_,_,_,⟨_,_,_⟩,⟨⟨_,_,_,_⟩,_,_,_⟩⟩,⟨_,_,_,_,⟨_,_,_⟩,⟨⟨_,_,_,_⟩,_,_,_⟩⟩⟩,_,_,_⟩:=a;obtain⟨⟨⟨_⟩,⟨_,_,_,_,⟨_,_,_⟩,⟨⟨_,_,_,_⟩,_,_,_⟩⟩,⟨_,_,_,_⟩,⟨_,_⟩,⟨_,_⟩,_,_⟩,⟨⟨_⟩,⟨_,_,_,_,⟨_,_,_⟩,⟨⟨_,_,_,_⟩,_,_,_⟩⟩,⟨_,_,_,_⟩,⟨_,_⟩,⟨_,_⟩,_,_⟩,_,⟨_⟩,⟨⟨_,_,_,_,⟨_,_,_⟩,⟨⟨_,_,_,_⟩,_,_,_⟩⟩,⟨_,_,_,_,⟨_,_,_⟩,⟨⟨_,_,_,_⟩,_,_,_⟩⟩⟩,_,_,_⟩:=b;unfold yT at h;try dsimp only at h
  refine bf Tryz.func31 λctr hc=>?_;refine aZ ?_;refine Wi 9 0 h sB (Jf _ _) λv h1=>?_;refine om 15 0 h (sK v sB) (Jf _ _) λv1 h2=>?_;refine Wk [] 0 [] Wz

end Go.Vx
