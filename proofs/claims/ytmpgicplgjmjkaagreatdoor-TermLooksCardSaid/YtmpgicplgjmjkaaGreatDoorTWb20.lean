/- Walks, by program (lift5.py): the code does what the lifted functions say. -/
import Derived.Test.YtmpgicplgjmjkaaGreatDoorTWb17
import Derived.Test.YtmpgicplgjmjkaaGreatDoorTWb19
set_option linter.all false
namespace Go.Vx
open Go.Proofs
set_option maxRecDepth 100000
set_option maxHeartbeats 8000000
set_option linter.unusedVariables false
set_option linter.unusedSimpArgs false
attribute [local irreducible] chk aA au aO oH

theorem aa9 s u a cap0 r (h:zq s u a cap0=some r):Pf 223 [aV aj s,dF aj u,gG aj a,.gX 1 1 (λ_ j=>(.fn (.func (aj.fF cap0)) (aj.fK cap0) (aj.fC cap0))) 0 0] (aV aj r):=by
  unfold zq at h;refine bf Tryz.func223 λctr hc=>?_;refine aZ ?_;refine Wo 11 0 (eD s) λv h1=>?_;refine Wo 13 0 (Dh a) λv1 h2=>?_;refine Wov 14 (agA cap0 v v1) λv2 h3=>?_;refine Wo 15 0 (jc s v2) λv3 h4=>?_;refine Wk [999] 0 [] Wz

theorem WX s u a cap0 r (h:uR s u a cap0=some r):Pf 242 [aV aj s,dF aj u,gG aj a,.gX 1 1 (λ_ j=>(.fn (.func (aj.fF cap0)) (aj.fK cap0) (aj.fC cap0))) 0 0] (aV aj r):=by
  unfold uR at h;refine bf Tryz.func242 λctr hc=>?_;refine aZ ?_;refine Wo 11 0 (eD s) λv h1=>?_;refine Wo 13 0 (zI a) λv1 h2=>?_;refine Wov 14 (agA cap0 v v1) λv2 h3=>?_;refine Wo 15 0 (jc s v2) λv3 h4=>?_;refine Wk [999] 0 [] Wz

theorem acy s d' a r (h:Ba s d' a=some r):Pf 151 [aV aj s,dF aj d',gG aj a] (aV aj r):=by
  obtain⟨⟨⟨_⟩,⟨_,_,_,_,⟨_,_,_⟩,⟨⟨_,_,_,_⟩,_,_,_⟩⟩,⟨_,_,_,_⟩,⟨_,_⟩,⟨_,_⟩,_,_⟩,⟨⟨_⟩,⟨_,_,_,_,⟨_,_,_⟩,⟨⟨_,_,_,_⟩,_,_,_⟩⟩,⟨_,_,_,_⟩,⟨_,_⟩,⟨_,_⟩,_,_⟩,_,⟨_⟩,⟨⟨_,_,_,_,⟨_,_,_⟩,⟨⟨_,_,_,_⟩,_,_,_⟩⟩,⟨_,_,_,_,⟨_,_,_⟩,⟨⟨_,_,_,_⟩,_,_,_⟩⟩⟩,_,_,NT⟩:=s;unfold Ba at h;try dsimp only at h
  refine bf Tryz.func151 λctr hc=>?_;refine aZ ?_;refine Wi 14 0 h (sF sB) (eD _) λv h1=>?_;obtain⟨⟨_⟩,⟨_,_,_,_,⟨_,_,_⟩,⟨⟨_,_,_,_⟩,_,_,_⟩⟩,⟨_,_,_,_⟩,⟨_,_⟩,⟨_,_⟩,_,_⟩:=v;revert h;refine kK 4 [] 0 [] (Wq ?_);intro h;intros;refine bR h (ctr+4) [(18,15)] [(3,1)] (λs1 u=>Fa [] [(3,.box (ctr+0) (cellsOf 83 λj=>(mO aj s1 j)))]) (λs1 uc ug ut ht hu hp h=>?_) (λf h=>?_)
  . refine Wx [] 0 [] Wz
  refine aZ ?_;refine Wo 19 0 (Dh a) λv1 h8=>?_;revert h;refine kK 1 [] 0 [] (Wq ?_);intro h;intros;refine Tr.block ?_;refine gy h (ctr+5) [(26,7)] [(3,1)] (λ(v2,s2) u1=>Fa [(26,vi v2)] [(3,.box (ctr+0) (cellsOf 83 λj=>(mO aj s2 j)))]) dN (λx dQ iN iG f ht hu hp h=>?_);obtain⟨_,s2⟩:=x;try dsimp only at hp h
  refine aZ ?_;refine Wo 31 0 (Qh s2 d' NT) λv3 Yr=>?_;refine Wk [] 0 [] Wz

theorem Ov v a0 a1 a2 r (h:y8 v a0 a1 a2=some r):Pf (aj.fF v) ([aV aj a0,dF aj a1,gG aj a2]++cellsOf (aj.fK v) (aj.fC v)) (aV aj r):=by
  unfold y8 at h;split at h
  . exact acw a0 a1 a2 r h
  . exact aa9 a0 a1 a2 _ r h
  . exact WX a0 a1 a2 _ r h
  . exact Yl a0 a1 a2 _ r h
  . exact Zw a0 a1 a2 _ _ r h
  . exact UQ a0 a1 a2 _ r h
  . exact Vd a0 a1 a2 _ r h
  . exact UZ a0 a1 a2 _ _ r h
  . exact afz a0 a1 a2 r h
  . exact afp a0 a1 a2 r h
  . exact Vb a0 a1 a2 r h
  . exact Fb a0 a1 a2 r h
  . exact ad5 a0 a1 a2 r h
  . exact afD a0 a1 a2 r h
  . exact adV a0 a1 a2 r h
  . exact acy a0 a1 a2 r h
  . exact aft a0 a1 a2 r h
  . exact abb a0 a1 a2 r h
  . exact acz a0 a1 a2 r h
  . exact aci a0 a1 a2 r h
  . exact acA a0 a1 a2 r h
  cases h

theorem ajc s d' a r (h:sM s d' a=some r):Pf 27 [aV aj s,dF aj d',gG aj a] (aV aj r):=by
  obtain⟨_,q1,q2,q3,_,q5⟩:=a;unfold sM at h;try dsimp only at h
  refine bf Tryz.func27 λctr hc=>?_;revert h;refine bT 1 [] 0 [] (Wq ?_);intro h;intros;refine bR h (ctr+1) [(11,4)] [] (λ_ u=>Fa [] []) (λx uc ug ut ht hu hp h=>?_) (λf h=>?_)
  . refine bR h uc [(7,4),(4,90)] [] (λ_ u1=>Fa [] []) (λx dQ iN iG ht hu hp h=>?_) (λf h=>?_)
    . refine Wx [] 0 [] Wz
    revert h;refine bT 1 [] 0 [] (Wq ?_);intro h;intros;refine Tr.block ?_;revert h;refine bT 1 [] 0 [] (Wq ?_);intro h;intros;refine uY h rfl (λ_ h=>?_) (λ_ h=>?_)
    . refine aZ ?_;refine Wo 20 0 (eD s) λv h22=>?_;refine Wo 27 0 (afE v.fC.aF q1) λv1 h23=>?_;obtain⟨⟨⟨q6,q7,q8,q9⟩,BG,BH,BI⟩,BJ⟩:=v1;refine Wo 35 0 (jc s ⟨v.fG,⟨v.fC.fX,v.fC.fY,v.fC.dz,v.fC.bO,v.fC.bB,⟨⟨q6,q7,q8,q9⟩,BG,BH,BI⟩⟩,v.fR,v.fT,v.fK,v.dH,v.bA⟩) λv2 h24=>?_;refine Wo 38 0 (Qh v2 d' BJ) λv3 h25=>?_;refine Wk [] 0 [] Wz
    revert h;refine bT 1 [] 0 [] (Wq ?_);intro h;intros;refine uY h rfl (λ_ h=>?_) (λ_ h=>?_)
    . refine aZ ?_;refine Wo 41 0 (ZB) λv4 h26=>?_;refine Wi 44 0 h (sK v4 sB) (EH _ _ _) λv5 h27=>?_;refine Wiv 48 h (sK v4 (sK v5 sB)) (Ov _ _ _ _) λv6 h28=>?_;refine Wk [] 0 [] Wz
    revert h;refine bT 1 [] 0 [] (Wq ?_);intro h;intros;refine uY h rfl (λ_ h=>?_) (λ_ h=>?_)
    . refine bR h (uc+4) [(10,1),(40,15)] [] (λ_ u2=>Fa [] []) (λx lD qW pU ht hu hp h=>?_) (λf h=>?_)
      . refine aZ ?_;refine Wo 66 0 (abd) λv7 h32=>?_;refine Wo 71 0 (EH v7 q3 q2) λv8 h33=>?_;refine Wiv 75 h (sK v7 (sK v8 sB)) (Ov _ _ _ _) λv9 h34=>?_;refine Wk [] 0 [] Wz
      revert h;refine bT 1 [] 0 [] (Wq ?_);intro h;intros;refine uY h rfl (λ_ h=>?_) (λ_ h=>?_)
      . refine aZ ?_;refine Wi 58 0 h (sC sB) (WY _ _) λv10 h36=>?_;revert h;refine kK 2 [] 0 [] (Wq ?_);intro h;intros;refine uY h rfl (λ_ h=>?_) (λ_ h=>?_)
        . refine aZ ?_;refine Wo 65 0 (Yh s v10 q2) λv11 h37=>?_;refine Wk [] 0 [] Wz
        refine Wx [] 0 [] Wz
      refine Wx [] 0 [] Wz
    revert h;refine bT 1 [] 0 [] (Wq ?_);intro h;intros;refine uY h rfl (λ_ h=>?_) (λ_ h=>?_)
    . refine bR h (uc+5) [(78,11)] [] (λ_ u3=>Fa [] []) (λx oV BD zT ht hu hp h=>?_) (λf h=>?_)
      . refine aZ ?_;refine Wo 89 0 (acB) λv12 h41=>?_;refine Wo 94 0 (EH v12 q3 q2) λv13 h42=>?_;refine Wiv 98 h (sK v12 (sK v13 sB)) (Ov _ _ _ _) λv14 h43=>?_;refine Wk [] 0 [] Wz
      revert h;refine bT 1 [] 0 [] (Wq ?_);intro h;intros;refine uY h rfl (λ_ h=>?_) (λ_ h=>?_)
      . refine aZ ?_;refine Wo 81 0 (Ym) λv15 h44=>?_;refine Wi 84 0 h (sK v15 sB) (EH _ _ _) λv16 h45=>?_;refine Wiv 88 h (sK v15 (sK v16 sB)) (Ov _ _ _ _) λv17 h46=>?_;refine Wk [] 0 [] Wz
      refine Wx [] 0 [] Wz
    revert h;refine bT 1 [] 0 [] (Wq ?_);intro h;intros;refine uY h rfl (λ_ h=>?_) (λ_ h=>?_)
    . refine aZ ?_;refine Wo 104 0 (ad8 s q5) λv18 h47=>?_;refine Wk [] 0 [] Wz
    refine Wx [] 0 [] Wz
  refine aZ ?_;refine Wo 12 0 (KJ s) λv19 h48=>?_;revert h;refine kK 1 [] 0 [] (Wq ?_);intro h;intros;refine uY h rfl (λ_ h=>?_) (λ_ h=>?_)
  . refine Wx [] 0 [] Wz
  refine Wx [] 0 [] Wz

theorem qB t' d' b r (h:nZ t' d' b=some r):Pf 8 [jK aj t',dF aj d',Lu aj b] (jK aj r):=by
  unfold nZ at h;refine bf Tryz.func8 λctr hc=>?_;refine aZ ?_;refine Wo 14 0 (qD t') λv h1=>?_;refine Wo 21 0 (ako t'.fU b) λv1 h2=>?_;obtain⟨⟨_⟩,q1⟩:=v1;refine Wo 28 0 (ag7 t'.fP q1) λv2 h3=>?_;obtain⟨⟨_,_,_,⟨_,_⟩,_,_⟩,_⟩:=v2;revert h;refine kK 5 [999] 0 [] (Wq ?_);intro h;intros;refine bR h (ctr+5) [(12,1),(22,13)] [(3,1)] (λt'2 u=>Fa [] [(3,.box (ctr+0) (cellsOf 92 λj=>(pX aj t'2 j)))]) (λt'2 uc ug ut ht hu hp h=>?_) (λf h=>?_)
  . refine aZ ?_;refine Wo 49 0 (Ve t'2) λv3 h10=>?_;refine Wk [999] 0 [] Wz
  revert h;refine bT 1 [999] 0 [] (Wq ?_);intro h;intros;refine Tr.block ?_;refine gy h (ctr+6) [(12,1),(24,11)] [(3,1),(8,1)] (λ(v4,t'4) u1=>Fa [(37,vi v4)] [(3,.box (ctr+0) (cellsOf 92 λj=>(pX aj t'4 j)))]) dN (λx dQ iN iG f ht hu hp h=>?_);obtain⟨_,_⟩:=x;try dsimp only at hp h
  refine aZ ?_;refine Wi 45 0 h (sT (sC sB)) (ajc _ _ _) λv5 h18=>?_;refine Wk [999] 0 [] Wz

theorem ame t' d' a r (h:afj t' d' a=some r):Pf 40 [jK aj t',dF aj d',adl aj a] (.jO 2 (λj=>match j with|0=>(jK aj r.1)|1=>(Lu aj r.2)|_=>.junk)):=by
  unfold afj at h;refine bf Tryz.func40 λctr hc=>?_;refine aZ ?_;refine Wo 24 0 (qD t') λv h1=>?_;refine Wo 29 0 (eD t'.fS) λv1 h2=>?_;revert h;refine kK 4 [999] 0 [] (Wq ?_);intro h;intros;refine aZ ?_;refine Wo 32 0 (ajb a) λv2 h3=>?_;refine Wo 40 0 (qB t' d' v2.fb) λv3 h4=>?_;refine Wo 145 0 (ad4 v3.fS) λv4 h5=>?_;obtain⟨⟨⟨⟨_⟩,⟨_,_,_,_,⟨_,_,_⟩,⟨⟨_,_,_,_⟩,_,_,_⟩⟩,⟨_,_,_,_⟩,⟨_,_⟩,⟨_,_⟩,_,_⟩,⟨⟨_⟩,⟨_,_,_,_,⟨_,_,_⟩,⟨⟨_,_,_,_⟩,_,_,_⟩⟩,⟨_,_,_,_⟩,⟨_,_⟩,⟨_,_⟩,_,_⟩,_,⟨_⟩,⟨⟨_,_,_,_,⟨_,_,_⟩,⟨⟨_,_,_,_⟩,_,_,_⟩⟩,⟨_,_,_,_,⟨_,_,_⟩,⟨⟨_,_,_,_⟩,_,_,_⟩⟩⟩,_,_,_⟩,_⟩:=v4;refine Wk [999] 0 [] Wz

theorem akp h' w kept d' l' r (h:acg h' w kept d' l'=some r):Pf 17 [vi h',vi w,vi kept,dF aj d',alN aj l'] (.jO 2 (λj=>match j with|0=>(jK aj r.1)|1=>(Lu aj r.2)|_=>.junk)):=by
  unfold acg at h;refine bf Tryz.func17 λctr hc=>?_;refine aZ ?_;refine Wo 21 0 (TW h' w kept) λv h1=>?_;revert h;refine kK 3 [] 0 [] (Wq ?_);intro h;intros;refine bR h (ctr+3) [(13,1),(1,3),(4,18)] [(12,1),(25,1)] (λ(FT,out) u=>Fa [(13,.vec 38 (u.g 38) 1 0 (aj.len out))] [(12,.box (ctr+1) (cellsOf 92 λj=>(pX aj FT j))),(38,Ru aj (u.g 38) (aj.len out) (u.t 38) out)]) (λx uc ug ut ht hu hp h=>?_) (λf h=>?_)
  . obtain⟨_,_⟩:=x;try dsimp only at hp h
    refine Wx [] 0 [] Wz
  revert h;refine bT 1 [] 0 [] (Wq ?_);intro h;intros;refine Tr.block ?_;refine gy h (ctr+4) [(13,1),(1,3),(6,16)] [(12,1),(2,2),(21,1)] (λ(v1,t'3,aX) u1=>Fa [(13,.vec 38 (u1.g 38) 1 0 (aj.len aX)),(24,vi v1)] [(12,.box (ctr+1) (cellsOf 92 λj=>(pX aj t'3 j))),(38,Ru aj (u1.g 38) (aj.len aX) (u1.t 38) aX)]) dN (λx dQ iN iG f ht hu hp h=>?_);obtain⟨_,_,_⟩:=x;try dsimp only at hp h
  refine aZ ?_;refine Wi 32 0 h (sT (sC sB)) (ame _ _ _) λv2 h19=>?_;obtain⟨⟨⟨_⟩,⟨_,_,_,⟨_,_⟩,_,_⟩,⟨⟨⟨_⟩,⟨_,_,_,_,⟨_,_,_⟩,⟨⟨_,_,_,_⟩,_,_,_⟩⟩,⟨_,_,_,_⟩,⟨_,_⟩,⟨_,_⟩,_,_⟩,⟨⟨_⟩,⟨_,_,_,_,⟨_,_,_⟩,⟨⟨_,_,_,_⟩,_,_,_⟩⟩,⟨_,_,_,_⟩,⟨_,_⟩,⟨_,_⟩,_,_⟩,_,⟨_⟩,⟨⟨_,_,_,_,⟨_,_,_⟩,⟨⟨_,_,_,_⟩,_,_,_⟩⟩,⟨_,_,_,_,⟨_,_,_⟩,⟨⟨_,_,_,_⟩,_,_,_⟩⟩⟩,_,_,_⟩,_⟩,_⟩:=v2;refine Wk [] 0 [] Wz

theorem zB r (h:nG=some r):Pf 6 [] (vb r):=by
  unfold nG at h;refine bf Tryz.func6 λctr hc=>?_;refine aZ ?_;refine Wo 7 0 (LD) λv h1=>?_;refine Wi 15 0 h (sK v sB) (akp _ _ _ _ _) λv1 h2=>?_;obtain⟨⟨⟨q⟩,⟨q1,q2,q3,⟨q4,q5⟩,q6,q7⟩,⟨⟨⟨q8⟩,⟨q9,BG,BH,BI,⟨BJ,EX,zG⟩,⟨⟨q16,yO,wO,JO⟩,JQ,Df,q22⟩⟩,⟨Hr,q24,Hz,JR⟩,⟨NM,Rn⟩,⟨Ro,NJ⟩,Rq,q32⟩,⟨⟨Rt⟩,⟨Rw,Rx,Ry,Rz,⟨RA,RB,NN⟩,⟨⟨NP,NQ,NR,RD⟩,RF,RG,RH⟩⟩,⟨RI,RJ,RL,U7⟩,⟨RN,RO⟩,⟨RP,RQ⟩,RU,RV⟩,RX,⟨RY⟩,⟨⟨RZ,R4,R5,R6,⟨R7,R8,NS⟩,⟨⟨R9,Sd,Si,Sj⟩,Sl,Sm,Sn⟩⟩,⟨Sr,Sv,Sz,SA,⟨SB,SC,SE⟩,⟨⟨SF,NT,q83,q84⟩,q85,q86,Zh⟩⟩⟩,Zi,Zj,Zk⟩,XQ⟩,q92⟩:=v1;refine Wod 20 0 h1 ?_;refine Wo 21 0 (afA ⟨⟨q⟩,⟨q1,q2,q3,⟨q4,q5⟩,q6,q7⟩,⟨⟨⟨q8⟩,⟨q9,BG,BH,BI,⟨BJ,EX,zG⟩,⟨⟨q16,yO,wO,JO⟩,JQ,Df,q22⟩⟩,⟨Hr,q24,Hz,JR⟩,⟨NM,Rn⟩,⟨Ro,NJ⟩,Rq,q32⟩,⟨⟨Rt⟩,⟨Rw,Rx,Ry,Rz,⟨RA,RB,NN⟩,⟨⟨NP,NQ,NR,RD⟩,RF,RG,RH⟩⟩,⟨RI,RJ,RL,U7⟩,⟨RN,RO⟩,⟨RP,RQ⟩,RU,RV⟩,RX,⟨RY⟩,⟨⟨RZ,R4,R5,R6,⟨R7,R8,NS⟩,⟨⟨R9,Sd,Si,Sj⟩,Sl,Sm,Sn⟩⟩,⟨Sr,Sv,Sz,SA,⟨SB,SC,SE⟩,⟨⟨SF,NT,q83,q84⟩,q85,q86,Zh⟩⟩⟩,Zi,Zj,Zk⟩,XQ⟩ v) λv2 h3=>?_;obtain⟨q93,q94,q95⟩:=v2;refine uh 41 0 (if (if (if (ng (Aa q92) (⟨#[27,91,49,59,50,82]⟩:ByteArray))=true then q95 else false)=true then (q93==0) else false)=true then (q94==1) else false) (qD ⟨⟨q⟩,⟨q1,q2,q3,⟨q4,q5⟩,q6,q7⟩,⟨⟨⟨q8⟩,⟨q9,BG,BH,BI,⟨BJ,EX,zG⟩,⟨⟨q16,yO,wO,JO⟩,JQ,Df,q22⟩⟩,⟨Hr,q24,Hz,JR⟩,⟨NM,Rn⟩,⟨Ro,NJ⟩,Rq,q32⟩,⟨⟨Rt⟩,⟨Rw,Rx,Ry,Rz,⟨RA,RB,NN⟩,⟨⟨NP,NQ,NR,RD⟩,RF,RG,RH⟩⟩,⟨RI,RJ,RL,U7⟩,⟨RN,RO⟩,⟨RP,RQ⟩,RU,RV⟩,RX,⟨RY⟩,⟨⟨RZ,R4,R5,R6,⟨R7,R8,NS⟩,⟨⟨R9,Sd,Si,Sj⟩,Sl,Sm,Sn⟩⟩,⟨Sr,Sv,Sz,SA,⟨SB,SC,SE⟩,⟨⟨SF,NT,q83,q84⟩,q85,q86,Zh⟩⟩⟩,Zi,Zj,Zk⟩,XQ⟩) false λv3 h4=>?_;refine Wk [14] 0 [] Wz

end Go.Vx
