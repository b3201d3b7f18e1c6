/- Walks, by program (lift5.py): the code does what the lifted functions say. -/
import Derived.Test.YtmpgicplgjmjkaaGreatDoorTWb13
import Derived.Test.YtmpgicplgjmjkaaGreatDoorTWb16
set_option linter.all false
section
namespace Go.Vx
open Go.Proofs
set_option maxRecDepth 100000
set_option maxHeartbeats 8000000
set_option linter.unusedVariables false
set_option linter.unusedSimpArgs false
attribute [local irreducible] chk aA au aO oH

theorem ai8 t' r (h:YW t'=some r):Pf 90 [jK aj t'] (YG aj r):=by
  unfold YW at h;refine bf Tryz.func90 λctr hc=>?_;refine aZ ?_;refine Wo 10 0 (qD t') λv h1=>?_;refine Wo 14 0 (eD t'.fS) λv1 h2=>?_;obtain⟨⟨q⟩,⟨_,_,_,_,⟨_,_,_⟩,⟨⟨_,_,_,_⟩,_,_,_⟩⟩,⟨_,_,_,_⟩,⟨_,_⟩,⟨_,_⟩,_,_⟩:=v1;refine Wo 18 0 (tJ t'.fS.fM true 2501) λv2 h3=>?_;refine Wo 20 0 (Qe t') λv3 h4=>?_;refine Wo 25 1 (aa8 v3 ⟨q⟩ t'.iF) λv4 h5=>?_;revert h;refine kK 6 [] 0 [] (Wq ?_);intro h;intros;refine bR h (ctr+6) [(7,2),(20,27)] [(28,1)] (λout u=>⟨[],[(28,kT aj (ctr+5) (aj.len v4) (u.t 28) out)],λ_=>ah out=(ah v4)⟩) (λout uc ug ut ht hu hp h=>?_) (λf h=>?_)
  . try dsimp only at hp h
    refine Wx [] 0 [] Wz
  revert h;refine bT 1 [] 0 [] (Wq ?_);intro h;intros;refine Tr.block ?_;refine gy h (ctr+7) [(7,2),(22,25)] [(8,1),(19,1)] (λ(v5,aX) u1=>⟨[(31,vi v5)],[(28,kT aj (ctr+5) (aj.len v4) (u1.t 28) aX)],λ_=>ah aX=(ah v4)⟩) dN (λx dQ iN iG f ht hu hp h=>?_);obtain⟨_,_⟩:=x;try dsimp only at hp h
  refine Wx [] 0 [] Wz

theorem ai9 t' d' r (h:Y9 t' d'=some r):Pf 42 [jK aj t',dF aj d'] (.jO 3 (λj=>match j with|0=>(FJ aj r.1)|1=>(vi r.2.1)|2=>(vb r.2.2)|_=>.junk)):=by
  obtain⟨⟨q⟩,⟨q1,q2,q3,⟨q4,q5⟩,q6,q7⟩,⟨⟨⟨q8⟩,⟨q9,BG,BH,BI,⟨BJ,EX,zG⟩,⟨⟨q16,yO,wO,JO⟩,JQ,Df,q22⟩⟩,⟨Hr,q24,Hz,JR⟩,⟨NM,Rn⟩,⟨Ro,NJ⟩,Rq,q32⟩,⟨⟨Rt⟩,⟨Rw,Rx,Ry,Rz,⟨RA,RB,NN⟩,⟨⟨NP,NQ,NR,RD⟩,RF,RG,RH⟩⟩,⟨RI,RJ,RL,U7⟩,⟨RN,RO⟩,⟨RP,RQ⟩,RU,RV⟩,RX,⟨RY⟩,⟨⟨RZ,R4,R5,R6,⟨R7,R8,NS⟩,⟨⟨R9,Sd,Si,Sj⟩,Sl,Sm,Sn⟩⟩,⟨Sr,Sv,Sz,SA,⟨SB,SC,SE⟩,⟨⟨SF,NT,q83,q84⟩,q85,q86,Zh⟩⟩⟩,Zi,Zj,Zk⟩,XQ⟩:=t';unfold Y9 at h;try dsimp only at h
  refine bf Tryz.func42 λctr hc=>?_;refine aZ ?_;refine Wi 12 0 h sB (eD _) λv h1=>?_;obtain⟨⟨_⟩,⟨_,q94,_,_,⟨_,_,_⟩,⟨⟨_,_,_,_⟩,_,_,_⟩⟩,⟨_,_,_,_⟩,⟨_,_⟩,⟨_,_⟩,_,_⟩:=v;refine Wo 21 0 (ai8 ⟨⟨q⟩,⟨q1,q2,q3,⟨q4,q5⟩,q6,q7⟩,⟨⟨⟨q8⟩,⟨q9,BG,BH,BI,⟨BJ,EX,zG⟩,⟨⟨q16,yO,wO,JO⟩,JQ,Df,q22⟩⟩,⟨Hr,q24,Hz,JR⟩,⟨NM,Rn⟩,⟨Ro,NJ⟩,Rq,q32⟩,⟨⟨Rt⟩,⟨Rw,Rx,Ry,Rz,⟨RA,RB,NN⟩,⟨⟨NP,NQ,NR,RD⟩,RF,RG,RH⟩⟩,⟨RI,RJ,RL,U7⟩,⟨RN,RO⟩,⟨RP,RQ⟩,RU,RV⟩,RX,⟨RY⟩,⟨⟨RZ,R4,R5,R6,⟨R7,R8,NS⟩,⟨⟨R9,Sd,Si,Sj⟩,Sl,Sm,Sn⟩⟩,⟨Sr,Sv,Sz,SA,⟨SB,SC,SE⟩,⟨⟨SF,NT,q83,q84⟩,q85,q86,Zh⟩⟩⟩,Zi,Zj,Zk⟩,XQ⟩) λv1 h3=>?_;refine Wo 24 0 (ag8 ⟨⟨q⟩,⟨q1,q2,q3,⟨q4,q5⟩,q6,q7⟩,⟨⟨⟨q8⟩,⟨q9,BG,BH,BI,⟨BJ,EX,zG⟩,⟨⟨q16,yO,wO,JO⟩,JQ,Df,q22⟩⟩,⟨Hr,q24,Hz,JR⟩,⟨NM,Rn⟩,⟨Ro,NJ⟩,Rq,q32⟩,⟨⟨Rt⟩,⟨Rw,Rx,Ry,Rz,⟨RA,RB,NN⟩,⟨⟨NP,NQ,NR,RD⟩,RF,RG,RH⟩⟩,⟨RI,RJ,RL,U7⟩,⟨RN,RO⟩,⟨RP,RQ⟩,RU,RV⟩,RX,⟨RY⟩,⟨⟨RZ,R4,R5,R6,⟨R7,R8,NS⟩,⟨⟨R9,Sd,Si,Sj⟩,Sl,Sm,Sn⟩⟩,⟨Sr,Sv,Sz,SA,⟨SB,SC,SE⟩,⟨⟨SF,NT,q83,q84⟩,q85,q86,Zh⟩⟩⟩,Zi,Zj,Zk⟩,XQ⟩) λv2 h4=>?_;refine Wo 25 0 (akl d' v1 (q94+XQ) v2) λv3 h5=>?_;obtain⟨⟨_,_,_,_⟩,_⟩:=v3;refine Wk [] 0 [] Wz

theorem afA t' d' r (h:Uj t' d'=some r):Pf 18 [jK aj t',dF aj d'] (.jO 3 (λj=>match j with|0=>(vi r.1)|1=>(vi r.2.1)|2=>(vb r.2.2)|_=>.junk)):=by
  obtain⟨⟨_⟩,⟨_,_,_,⟨_,_⟩,_,_⟩,⟨⟨⟨q8⟩,⟨q9,BG,BH,BI,⟨BJ,EX,zG⟩,⟨⟨q16,yO,wO,JO⟩,JQ,Df,q22⟩⟩,⟨Hr,q24,Hz,JR⟩,⟨NM,Rn⟩,⟨Ro,NJ⟩,Rq,q32⟩,⟨⟨Rt⟩,⟨Rw,Rx,Ry,Rz,⟨RA,RB,NN⟩,⟨⟨NP,NQ,NR,RD⟩,RF,RG,RH⟩⟩,⟨RI,RJ,RL,U7⟩,⟨RN,RO⟩,⟨RP,RQ⟩,RU,RV⟩,RX,⟨RY⟩,⟨⟨RZ,R4,R5,R6,⟨R7,R8,NS⟩,⟨⟨R9,Sd,Si,Sj⟩,Sl,Sm,Sn⟩⟩,⟨Sr,Sv,Sz,SA,⟨SB,SC,SE⟩,⟨⟨SF,NT,q83,q84⟩,q85,q86,Zh⟩⟩⟩,Zi,Zj,Zk⟩,_⟩:=t';unfold Uj at h;try dsimp only at h
  refine bf Tryz.func18 λctr hc=>?_;refine aZ ?_;refine Wi 11 0 h sB (qD _) λv h1=>?_;refine om 17 0 h (sK v sB) (tJ _ _ _) λv1 h2=>?_;refine Wi 23 0 h (sK v (sK v1 (sF sB))) (ai9 _ _) λv2 h3=>?_;obtain⟨⟨q92,q93,q94,q95⟩,_,_⟩:=v2;refine Wo 33 0 (eD ⟨⟨⟨q8⟩,⟨q9,BG,BH,BI,⟨BJ,EX,zG⟩,⟨⟨q16,yO,wO,JO⟩,JQ,Df,q22⟩⟩,⟨Hr,q24,Hz,JR⟩,⟨NM,Rn⟩,⟨Ro,NJ⟩,Rq,q32⟩,⟨⟨Rt⟩,⟨Rw,Rx,Ry,Rz,⟨RA,RB,NN⟩,⟨⟨NP,NQ,NR,RD⟩,RF,RG,RH⟩⟩,⟨RI,RJ,RL,U7⟩,⟨RN,RO⟩,⟨RP,RQ⟩,RU,RV⟩,RX,⟨RY⟩,⟨⟨RZ,R4,R5,R6,⟨R7,R8,NS⟩,⟨⟨R9,Sd,Si,Sj⟩,Sl,Sm,Sn⟩⟩,⟨Sr,Sv,Sz,SA,⟨SB,SC,SE⟩,⟨⟨SF,NT,q83,q84⟩,q85,q86,Zh⟩⟩⟩,Zi,Zj,Zk⟩) λv3 h4=>?_;refine Wo 36 0 (afB ⟨q92,q93,q94,q95⟩ v3.fC.fX) λv4 h5=>?_;refine Wk [] 0 [] Wz

end Go.Vx
end

section
namespace Go.Vx
open Go.Proofs
set_option maxRecDepth 100000
set_option maxHeartbeats 8000000
set_option linter.unusedVariables false
set_option linter.unusedSimpArgs false
attribute [local irreducible] chk aA au aO oH

theorem UF t' n r (h:BS t' n=some r):Pf 16 [jK aj t',vi n] (jK aj r):=by
  obtain⟨⟨_⟩,⟨_,_,_,⟨_,_⟩,_,_⟩,⟨⟨⟨_⟩,⟨_,_,_,_,⟨_,_,_⟩,⟨⟨_,_,_,_⟩,_,_,_⟩⟩,⟨_,_,_,_⟩,⟨_,_⟩,⟨_,_⟩,_,_⟩,⟨⟨_⟩,⟨_,_,_,_,⟨_,_,_⟩,⟨⟨_,_,_,_⟩,_,_,_⟩⟩,⟨_,_,_,_⟩,⟨_,_⟩,⟨_,_⟩,_,_⟩,_,⟨_⟩,⟨⟨_,_,_,_,⟨_,_,_⟩,⟨⟨_,_,_,_⟩,_,_,_⟩⟩,⟨_,_,_,_,⟨_,_,_⟩,⟨⟨_,_,_,_⟩,_,_,_⟩⟩⟩,_,_,_⟩,_⟩:=t';unfold BS at h;try dsimp only at h
  refine bf Tryz.func16 λctr hc=>?_;refine aZ ?_;refine Wi 6 0 h sB (qD _) λv h1=>?_;refine Wi 19 0 h (sK v (sF (sC sB))) (Ve _) λv1 h3=>?_;refine Wk [] 0 [] Wz

end Go.Vx
end
