/- Walks, by program (lift5.py): the code does what the lifted functions say. -/
import Derived.Test.YtmpgicplgjmjkaaGreatDoorTWb5
import Derived.Test.YtmpgicplgjmjkaaGreatDoorTWb6
import Derived.Test.YtmpgicplgjmjkaaGreatDoorTWb7
import Derived.Test.YtmpgicplgjmjkaaGreatDoorTWb8
set_option linter.all false
namespace Go.Vx
open Go.Proofs
set_option maxRecDepth 100000
set_option maxHeartbeats 8000000
set_option linter.unusedVariables false
set_option linter.unusedSimpArgs false
attribute [local irreducible] chk aA au aO oH

theorem aiY s r' r (h:MB s r'=some r):Pf 102 [iJ aj s,vi r'] (iJ aj r):=by
  obtain⟨_,_,_,⟨_,_⟩,_,_⟩:=s;unfold MB at h;try dsimp only at h
  refine bf Tryz.func102 λctr hc=>?_;refine aZ ?_;refine Wo 18 0 (ama r') λv h1=>?_;refine Wk [] 0 [] Wz

theorem ag6 s r' r (h:uU s r'=some r):Pf 51 [iJ aj s,vi r'] (.jO 2 (λj=>match j with|0=>(iJ aj r.1)|1=>(tu aj r.2)|_=>.junk)):=by
  obtain⟨q,q1,q2,⟨q3,q4⟩,q5,q6⟩:=s;unfold uU at h;try dsimp only at h
  refine bf Tryz.func51 λctr hc=>?_;revert h;refine bT 1 [999] 0 [] (Wq ?_);intro h;intros;refine Wgo 0 h (ctr+1) [(5,82)] [(6,1)] (λ(told,next) u=>Fa [(6,.fq 6 (u.g 6) 0),(7,tu aj told)] [(6,.box (u.g 6) (cellsOf 7 λj=>(uz aj next j)))]) (λx uc ug ut ht hu hp h=>?_) (λf h=>?_)
  . obtain⟨_,_⟩:=x;try dsimp only at hp h
    refine aZ ?_;refine Wi 84 1 h sB (aiZ _) λv h8=>?_;refine Wk [999] 0 [] Wz
  refine aZ ?_;refine Wi 9 0 h sB (Nr _) λv1 h10=>?_;revert h;refine kK 3 [999] 0 [] (Wq ?_);intro h;intros;refine aZ ?_;refine Wo 21 1 (Qc r') λv2 h11=>?_;refine Wo 35 0 (afv r') λv3 h12=>?_;obtain⟨⟨_,_,_,⟨_,_⟩,_,_⟩,_⟩:=v3;refine Wi 48 0 h (sF (sF (sF (sF sB)))) (aa2 _) λv4 h13=>?_;refine Wo 51 0 (aiY ⟨q,q1,q2,⟨q3,q4⟩,q5,q6⟩ r') λv5 Yr=>?_;refine Wod 61 1 h11 ?_;refine Wo 75 1 (SH r') λv6 h15=>?_;refine Wo 79 0 (acs ⟨q,q1,q2,⟨q3,q4⟩,q5,q6⟩ (IntKind.wrap .u8 r')) λv7 h16=>?_;obtain⟨⟨_,_,_,⟨_,_⟩,_,_⟩,_⟩:=v7;refine Wkp 2 [999] 0 [] Wz

theorem ag7 s l' r (h:Ie s l'=some r):Pf 26 [iJ aj s,Li aj l'] (.jO 2 (λj=>match j with|0=>(iJ aj r.1)|1=>(tu aj r.2)|_=>.junk)):=by
  unfold Ie at h;refine bf Tryz.func26 λctr hc=>?_;refine aZ ?_;refine Wo 11 0 (Nr s) λv h1=>?_;revert h;refine kK 3 [] 0 [] (Wq ?_);intro h;intros;refine bR h (ctr+3) [(6,1),(1,2),(4,16)] [(2,1),(25,1)] (λ(s1,all) u=>Fa [(6,.vec 28 (u.g 28) 6 0 (aj.len all))] [(2,.box (ctr+0) (cellsOf 7 λj=>(uz aj s1 j))),(28,YF aj (u.g 28) (aj.len all) (u.t 28) all)]) (λx uc ug ut ht hu hp h=>?_) (λf h=>?_)
  . obtain⟨_,_⟩:=x;try dsimp only at hp h
    refine Wx [] 0 [] Wz
  revert h;refine bT 1 [] 0 [] (Wq ?_);intro h;intros;refine Tr.block ?_;refine gy h (ctr+4) [(6,1),(1,2),(6,14)] [(2,1),(25,1)] (λ(v1,s2,all1) u1=>Fa [(6,.vec 28 (u1.g 28) 6 0 (aj.len all1)),(16,vi v1)] [(2,.box (ctr+0) (cellsOf 7 λj=>(uz aj s2 j))),(28,YF aj (u1.g 28) (aj.len all1) (u1.t 28) all1)]) dN (λx dQ iN iG f ht hu hp h=>?_);obtain⟨v1,s2,_⟩:=x;try dsimp only at hp h
  refine aZ ?_;refine Wo 23 0 (ag6 s2 (aB 0 l' v1)) λv2 h19=>?_;obtain⟨⟨_,_,_,⟨_,_⟩,_,_⟩,_⟩:=v2;refine Wk [] 0 [] Wz

theorem Zq c' r' r (h:G7 c' r'=some r):Pf 246 [gu aj c',iD aj r'] (vb r):=by
  unfold G7 at h;refine bf Tryz.func246 λctr hc=>?_;refine aZ ?_;refine Wo 7 0 (pO c' r') λv h1=>?_;refine uh 11 0 v (Qd c' r') false λv1 h2=>?_;refine Wk [] 0 [] Wz

theorem Yk c' cap0 iI r (h:zX c' cap0 iI=some r):Pf 230 [iT aj c',.gX 1 1 (λ_ j=>(vi cap0)) 0 0,.gX 1 1 (λ_ j=>(vb iI)) 0 0] (iT aj r):=by
  unfold zX at h;refine bf Tryz.func230 λctr hc=>?_;refine aZ ?_;refine Wi 8 0 h sB (adX _ _ _) λv h1=>?_;refine Wk [] 0 [] Wz

theorem WQ c' cap0 r (h:yQ c' cap0=some r):Pf 234 [iT aj c',.gX 1 1 (λ_ j=>(vi cap0)) 0 0] (iT aj r):=by
  unfold yQ at h;refine bf Tryz.func234 λctr hc=>?_;refine aZ ?_;refine Wo 6 0 (acu c' cap0) λv h1=>?_;refine Wk [] 0 [] Wz

theorem an9 v a0 r (h:acZ v a0=some r):Pf (aj.fF v) ([iT aj a0]++cellsOf (aj.fK v) (aj.fC v)) (iT aj r):=by
  unfold acZ at h;split at h
  . exact Yk a0 _ _ r h
  . exact WQ a0 _ r h
  cases h

theorem Yl s u u1 cap0 r (h:vH s u u1 cap0=some r):Pf 317 [aV aj s,dF aj u,gG aj u1,.gX 1 1 (λ_ j=>(.fn (.func (aj.fF cap0)) (aj.fK cap0) (aj.fC cap0))) 0 0] (aV aj r):=by
  unfold vH at h;refine bf Tryz.func317 λctr hc=>?_;refine aZ ?_;refine Wo 10 0 (eD s) λv h1=>?_;obtain⟨⟨q⟩,⟨q1,q2,q3,q4,⟨q5,q6,q7⟩,⟨⟨q8,q9,BG,BH⟩,BI,BJ,EX⟩⟩,⟨zG,q16,yO,wO⟩,⟨JO,JQ⟩,⟨Df,q22⟩,Hr,q24⟩:=v;refine Wov 15 (an9 cap0 ⟨⟨q8,q9,BG,BH⟩,BI,BJ,EX⟩) λv1 h2=>?_;refine Wo 20 0 (jc s ⟨⟨q⟩,⟨q1,q2,q3,q4,⟨q5,q6,q7⟩,v1⟩,⟨zG,q16,yO,wO⟩,⟨JO,JQ⟩,⟨Df,q22⟩,Hr,q24⟩) λv2 h3=>?_;refine Wk [] 0 [] Wz

theorem Ym r (h:vQ=some r):Pf 60 [] ((Br aj r)):=by
  unfold vQ at h;refine bf Tryz.func60 λctr hc=>?_;refine aZ ?_;refine Wi 2 6 h sB (GR _) λv h1=>?_;refine Wo 3 0 (uq (-1) 0 false) λv1 h2=>?_;refine Wo 5 0 (uq 1 0 false) λv2 h3=>?_;refine Wo 7 0 (uq 0 1 false) λv3 h4=>?_;refine Wo 9 0 (uq 0 (-1) false) λv4 h5=>?_;refine Wod 11 0 h4 ?_;refine Wod 13 0 h3 ?_;refine Wo 15 0 (uq 1 0 true) λv5 h6=>?_;refine Wo 17 0 (uq (-1) 0 true) λv6 h7=>?_;refine Wo 23 6 (GR (FV.nil 137)) λv7 h8=>?_;refine Wo 27 6 (gY (FV.nil 117)) λv8 h9=>?_;refine Wo 29 6 (gY (FV.nil 140)) λv9 h10=>?_;refine Wo 31 6 (tK (FV.nil 142)) λv10 h11=>?_;refine Wo 33 6 (tK (FV.nil 143)) λv11 h12=>?_;refine Wo 35 6 (gY (FV.nil 144)) λv12 h13=>?_;refine Wo 37 6 (gY (FV.nil 145)) λv13 Yr=>?_;refine Wo 39 6 (gY (FV.nil 146)) λv14 h15=>?_;refine Wo 41 6 (gY (FV.nil 147)) λv15 h16=>?_;refine Wo 43 6 (gY (FV.nil 148)) λv16 h17=>?_;refine Wo 45 6 (gY (FV.nil 149)) λv17 h18=>?_;refine Wo 47 6 (gY (FV.nil 150)) λv18 h19=>?_;refine Wo 50 6 (tK (FV.nil 152)) λv19 h20=>?_;refine Wo 56 0 (JU true) λv20 h21=>?_;refine Wo 58 0 (JU false) λv21 h22=>?_;refine Wo 61 6 (GU 0 (FV.nil 158)) λv22 h23=>?_;refine Wk [63] 0 [] Wz

theorem ag8 t' r (h:Wv t'=some r):Pf 91 [jK aj t'] (vb r):=by
  unfold Wv at h;refine bf Tryz.func91 λctr hc=>?_;refine aZ ?_;refine Wi 6 0 h sB (tJ _ _ _) λv h1=>?_;refine Wk [] 0 [] Wz

theorem afw d' r' r (h:Ue d' r'=some r):Pf 351 [dF aj d',Li aj r'] (Ui aj r):=by
  unfold Ue at h;refine bf Tryz.func351 λctr hc=>?_;refine aZ ?_;refine Wo 11 0 (ae5) λv h1=>?_;revert h;refine kK 4 [] 0 [] (Wq ?_);intro h;intros;refine bR h (ctr+4) [(8,3),(5,49)] [(15,1)] (λout u=>⟨[],[(15,Ri aj (ctr+3) (aj.len r') (u.t 15) out)],λ_=>ah out=(ah r')⟩) (λout uc ug ut ht hu hp h=>?_) (λf h=>?_)
  . try dsimp only at hp h
    refine Wx [] 0 [] Wz
  revert h;refine bT 1 [] 0 [] (Wq ?_);intro h;intros;refine Tr.block ?_;refine gy h (ctr+5) [(8,3),(7,47)] [(15,1)] (λ(v1,aX) u1=>⟨[(18,vi v1)],[(15,Ri aj (ctr+3) (aj.len r') (u1.t 15) aX)],λ_=>ah aX=(ah r')⟩) dN (λx dQ iN iG f ht hu hp h=>?_);obtain⟨v1,_⟩:=x;try dsimp only at hp h
  refine aZ ?_;refine Wo 23 4 (AL v1 1 v d' r') λv2 h35=>?_;refine uh 29 0 v2 (adY d' r' v1) 0 λv3 h36=>?_;refine uh 30 4 v2 (AL v3 2 v d' r') false λv4 h37=>?_;refine Wo 34 4 (AL v1 2 v d' r') λv5 h38=>?_;refine uh 40 0 v5 (U1 d' r' v1) 0 λv6 h39=>?_;refine uh 41 4 v5 (AL v6 1 v d' r') false λv7 h40=>?_;refine Wk [] 0 [] Wz

theorem adZ d' r' levels boxes r (h:PZ d' r' levels boxes=some r):Pf 290 [dF aj d',Li aj r',Li aj levels,vb boxes] (Ui aj r):=by
  unfold PZ at h;refine bf Tryz.func290 λctr hc=>?_;refine aZ ?_;refine Wo 20 1 (mI r') λv h1=>?_;refine Wo 29 1 (afw d' r') λv1 h2=>?_;revert h;refine kK 4 [] 0 [] (Wq ?_);intro h;intros;refine bR h (ctr+4) [(11,2),(17,35)] [(20,1)] (λout u=>⟨[],[(20,Ri aj (ctr+1) (aj.len v) (u.t 20) out)],λ_=>ah out=(ah v)⟩) (λout uc ug ut ht hu hp h=>?_) (λf h=>?_)
  . try dsimp only at hp h
    refine bR h uc [(13,6),(46,48)] [] (λ_ u1=>Fa [] []) (λx dQ iN iG ht hu hp h=>?_) (λf h=>?_)
    . refine Wx [] 0 [] Wz
    revert h;refine bT 1 [] 0 [] (Wq ?_);intro h;intros;refine Tr.block ?_;refine gy h (uc+1) [(13,6),(48,46)] [] (λv2 u2=>Fa [(67,vi v2)] []) dN (λv2 lD qW pU f ht hu hp h=>?_);refine aZ ?_;refine Wo 75 0 (U1 d' r' v2) λv3 h34=>?_;refine Wk [] 0 [] Wz
  revert h;refine bT 1 [] 0 [] (Wq ?_);intro h;intros;refine Tr.block ?_;refine gy h (ctr+5) [(11,2),(19,33)] [(20,1)] (λ(v4,aX) u3=>⟨[(32,vi v4)],[(20,Ri aj (ctr+1) (aj.len v) (u3.t 20) aX)],λ_=>ah aX=(ah v)⟩) dN (λx oV BD zT f ht hu hp h=>?_);obtain⟨v4,_⟩:=x;try dsimp only at hp h
  revert h;refine bT 2 [] 0 [] (Wq ?_);intro h;intros;refine bR h (oV+1) [(11,2),(21,30)] [(20,1)] (λl9 u4=>⟨[],[(20,Ri aj (ctr+1) (aj.len v) (u4.t 20) l9)],λ_=>ah l9=(ah v)⟩) (λl9 yN MQ JN ht hu hp h=>?_) (λf h=>?_)
  . try dsimp only at hp h
    refine Wx [] 0 [] Wz
  refine Tr.block ?_;refine aZ ?_;refine Wi 45 0 h (sA (sC (sC sB))) (ai0 _ _ _) λv6 h73=>?_;refine Wkc 2 [] 0 [] h (oV+1) [(11,2),(21,13)] [(20,1)] (λnT u5=>⟨[(11,vi v4),(12,vi (aj.get 0 r' v4))],[(20,Ri aj (ctr+1) (aj.len v) (u5.t 20) nT)],λ_=>ah nT=(ah v)⟩) (λnT NK XU UN ht hu hp h=>?_) (λf h=>Wz);try dsimp only at hp h
  refine aZ ?_;refine Wi 62 0 h (sC (sT (sC sB))) (ad1 _ _ _ _) λv5 h69=>?_;refine Wk [] 0 [] Wz

theorem jI t' r (h:iK t'=some r):Pf 11 [jK aj t'] (oC aj r):=by
  unfold iK at h;refine bf Tryz.func11 λctr hc=>?_;refine aZ ?_;refine Wo 30 0 (QG t'.fS) λv h1=>?_;refine Wk [] 0 [] Wz

end Go.Vx
