/- Walks, by program (lift5.py): the code does what the lifted functions say. -/
import Derived.Test.YtmpgicplgjmjkaaGreatDoorTWb2
import Derived.Test.YtmpgicplgjmjkaaGreatDoorTWb3
import Derived.Test.YtmpgicplgjmjkaaGreatDoorTWb4
set_option linter.all false
namespace Go.Vx
open Go.Proofs
set_option maxRecDepth 100000
set_option maxHeartbeats 8000000
set_option linter.unusedVariables false
set_option linter.unusedSimpArgs false
attribute [local irreducible] chk aA au aO oH

theorem Xa s substr r (h:stringslite_Index s substr=some r):Pf 297 [vs s,vs substr] (vi r):=by
  unfold stringslite_Index at h;refine bf Tryz.func297 λctr hc=>?_;refine aZ ?_;refine Wo 30 0 (DX s (kY substr 0)) λv h2=>?_;refine Wkp 8 [] 0 [] Wz

theorem acn s substr r (h:strings_Index s substr=some r):Pf 200 [vs s,vs substr] (vi r):=by
  unfold strings_Index at h;refine bf Tryz.func200 λctr hc=>?_;refine aZ ?_;refine Wo 7 0 (Xa s substr) λv h1=>?_;refine Wk [] 0 [] Wz

theorem acp s r (h:Nk s=some r):Pf 20 [vs s] (vi r):=by
  unfold Nk at h;refine bf Tryz.func20 λctr hc=>?_;revert h;refine bT 1 [] 0 [] (Wq ?_);intro h;intros;refine bR h (ctr+1) [(2,16)] [(5,1)] (λ_ u=>Fa [] []) (λx uc ug ut ht hu hp h=>?_) (λf h=>?_)
  . cases h
  refine aZ ?_;refine Wo 5 1 (abe kS0) λv h8=>?_;revert h;refine kK 1 [] 0 [] (Wq ?_);intro h;intros;refine Tr.block ?_;refine gy h (ctr+2) [(2,3),(2,11)] [] (λv1 u1=>Fa [(7,vi v1)] []) dN (λv1 dQ iN iG f ht hu hp h=>?_);refine Wx [] 0 [] Wz

theorem Nq h' w r (h:zY h' w=some r):Pf 63 [vi h',vi w] (.jO 2 (λj=>match j with|0=>(gu aj r.1)|1=>(iD aj r.2)|_=>.junk)):=by
  unfold zY at h;refine bf Tryz.func63 λctr hc=>?_;refine aZ ?_;refine Wo 8 0 (nU h' 1 1000) λv h1=>?_;refine Wo 10 0 (nU w 1 4096) λv1 h2=>?_;refine Wo 11 0 (UU v v1) λv2 h3=>?_;refine Wo 12 0 (zK) λv3 h4=>?_;refine Wk [999] 0 [] Wz

theorem LP w r (h:Dk w=some r):Pf 170 [vi w] (nC aj r):=by
  unfold Dk at h;refine bf Tryz.func170 λctr hc=>?_;refine aZ ?_;refine Wo 6 0 (ahd w) λv h1=>?_;revert h;refine kK 2 [] 0 [] (Wq ?_);intro h;intros;refine bR h (ctr+2) [(4,1),(3,12)] [(3,1),(14,1)] (λo u=>Fa [] [(3,.box (ctr+1) [.vec 18 (u.g 18) 1 0 (aj.len o),vi v]),(18,Ri aj (u.g 18) (aj.len o) (u.t 18) o)]) (λo uc ug ut ht hu hp h=>?_) (λf h=>?_)
  . refine Wx [] 0 [] Wz
  revert h;refine bT 1 [] 0 [] (Wq ?_);intro h;intros;refine Tr.block ?_;refine gy h (ctr+3) [(4,1),(3,12)] [(3,1),(14,1)] (λ(at',o1) u1=>Fa [(4,vi at')] [(3,.box (ctr+1) [.vec 18 (u1.g 18) 1 0 (aj.len o1),vi v]),(18,Ri aj (u1.g 18) (aj.len o1) (u1.t 18) o1)]) dN (λx dQ iN iG f ht hu hp h=>?_);obtain⟨_,_⟩:=x;try dsimp only at hp h
  refine Wx [17] 0 [] Wz

theorem ami v a0 r (h:Z9 v a0=some r):Pf (aj.fF v) ([vi a0]++cellsOf (aj.fK v) (aj.fC v)) (vb r):=by
  unfold Z9 at h;split at h
  . exact ahc a0 _ r h
  . exact ahf a0 _ r h
  . exact ad9 a0 _ r h
  cases h

theorem KI s keep r (h:yg s keep=some r):Pf 318 [nC aj s,(.fn (.func (aj.fF keep)) (aj.fK keep) (aj.fC keep))] (Ui aj r):=by
  obtain⟨q,_⟩:=s;unfold yg at h;try dsimp only at h
  refine bf Tryz.func318 λctr hc=>?_;revert h;refine bT 2 [] 0 [] (Wq ?_);intro h;intros;refine bR h (ctr+2) [(5,1),(1,16)] [(21,1)] (λl' u=>Fa [(5,.vec 21 (u.g 21) 1 0 (aj.len l'))] [(21,Ri aj (u.g 21) (aj.len l') (u.t 21) l')]) (λl' uc ug ut ht hu hp h=>?_) (λf h=>?_)
  . refine Wx [] 0 [] Wz
  revert h;refine bT 1 [] 0 [] (Wq ?_);intro h;intros;refine Tr.block ?_;refine gy h (ctr+3) [(5,1),(1,1),(3,12)] [(21,1)] (λ(v,iE) u1=>Fa [(5,.vec 21 (u1.g 21) 1 0 (aj.len iE)),(11,vi v)] [(21,Ri aj (u1.g 21) (aj.len iE) (u1.t 21) iE)]) dN (λx dQ iN iG f ht hu hp h=>?_);obtain⟨v,_⟩:=x;try dsimp only at hp h
  refine aZ ?_;refine Wov 17 (ami keep (aB 0 q v)) λv1 h22=>?_;refine Wk [20] 0 [] Wz

theorem aiV s r (h:L6 s=some r):Pf 255 [nC aj s] (nC aj r):=by
  unfold L6 at h;refine bf Tryz.func255 λctr hc=>?_;refine aZ ?_;refine Wo 4 0 (zF s) λv h1=>?_;refine Wo 6 0 (LP 80) λv1 h2=>?_;refine Wk [] 0 [] Wz

theorem nV at' right r (h:kL at' right=some r):Pf 121 [vi at',vb right] ((.fn (.func (aj.fF r)) (aj.fK r) (aj.fC r))):=by
  unfold kL at h;refine bf Tryz.func121 λctr hc=>?_;refine aZ ?_;refine Wi 6 6 h sB (NU _) λv h1=>?_;refine Wk [] 0 [] Wz

theorem xU at' r (h:mV at'=some r):Pf 126 [vi at'] ((.fn (.func (aj.fF r)) (aj.fK r) (aj.fC r))):=by
  unfold mV at h;refine bf Tryz.func126 λctr hc=>?_;refine aZ ?_;refine Wi 4 6 h sB (NU _) λv h1=>?_;refine Wk [] 0 [] Wz

theorem ZB r (h:tT=some r):Pf 56 [] ((Br aj r)):=by
  unfold tT at h;refine bf Tryz.func56 λctr hc=>?_;refine aZ ?_;refine Wi 1 6 h sB (gY _) λv h1=>?_;refine Wo 3 6 (gY (FV.nil 116)) λv1 h2=>?_;refine Wo 8 6 (gY (FV.nil 119)) λv2 h3=>?_;refine Wo 10 0 (nV 1 false) λv3 h4=>?_;refine Wo 12 0 (nV 0 false) λv4 h5=>?_;refine Wo 14 6 (gY (FV.nil 122)) λv5 h6=>?_;refine Wo 16 6 (gY (FV.nil 123)) λv6 h7=>?_;refine Wo 19 6 (gY (FV.nil 125)) λv7 h8=>?_;refine Wo 21 0 (xU 2) λv8 h9=>?_;refine Wo 23 0 (xU 3) λv9 h10=>?_;refine Wk [25] 0 [] Wz

theorem abd r (h:vv=some r):Pf 59 [] ((Br aj r)):=by
  unfold vv at h;refine bf Tryz.func59 λctr hc=>?_;refine aZ ?_;refine Wi 3 6 h sB (gY _) λv h1=>?_;refine Wo 5 6 (gY (FV.nil 123)) λv1 h2=>?_;refine Wo 7 6 (gY (FV.nil 125)) λv2 h3=>?_;refine Wo 11 0 (nV 2 false) λv3 h4=>?_;refine Wo 13 0 (nV 3 false) λv4 h5=>?_;refine Wo 15 0 (nV 1 true) λv5 h6=>?_;refine Wo 17 0 (nV 2 true) λv6 h7=>?_;refine Wo 19 0 (nV 3 true) λv7 h8=>?_;refine Wo 21 0 (xU 2) λv8 h9=>?_;refine Wo 23 0 (xU 3) λv9 h10=>?_;refine Wk [26] 0 [] Wz

theorem zI a r (h:oF a=some r):Pf 243 [gG aj a] (vi r):=by
  unfold oF at h;refine bf Tryz.func243 λctr hc=>?_;refine aZ ?_;refine Wi 5 0 h sB (Gm _ _ _) λv h1=>?_;refine Wk [] 0 [] Wz

theorem acA s u a r (h:A9 s u a=some r):Pf 165 [aV aj s,dF aj u,gG aj a] (aV aj r):=by
  unfold A9 at h;refine bf Tryz.func165 λctr hc=>?_;refine aZ ?_;refine Wo 9 0 (zI a) λv h1=>?_;refine Wk [] 0 [] Wz

theorem Jq s prefix' r (h:strings_HasPrefix s prefix'=some r):Pf 166 [vs s,vs prefix'] (vb r):=by
  unfold strings_HasPrefix at h;refine bf Tryz.func166 λctr hc=>?_;refine aZ ?_;refine Wo 7 0 (Qk s prefix') λv h1=>?_;refine Wk [] 0 [] Wz

theorem ad8 s t' r (h:Dn s t'=some r):Pf 62 [aV aj s,vs t'] (aV aj r):=by
  unfold Dn at h;refine bf Tryz.func62 λctr hc=>?_;refine aZ ?_;refine Wi 6 0 h sB (Jq _ _) λv h1=>?_;refine om 10 0 h (sK v sB) (Jq _ _) λv1 h2=>?_;refine Wk [] 0 [] Wz

theorem ZE d' r' r (h:Rf d' r'=some r):Pf 346 [dF aj d',vi r'] (vi r):=by
  unfold Rf at h;refine bf Tryz.func346 λctr hc=>?_;refine aZ ?_;refine Wi 9 0 h sB (Nw _ _) λv h1=>?_;refine Wk [] 0 [] Wz

theorem ad6 d' r' r (h:PW d' r'=some r):Pf 348 [dF aj d',Li aj r'] (Ui aj r):=by
  unfold PW at h;refine bf Tryz.func348 λctr hc=>?_;revert h;refine bT 2 [] 0 [] (Wq ?_);intro h;intros;refine bR h (ctr+2) [(6,2),(3,14)] [(10,1)] (λout u=>⟨[],[(10,Ri aj (ctr+1) (aj.len r') (u.t 10) out)],λ_=>ah out=(ah r')⟩) (λout uc ug ut ht hu hp h=>?_) (λf h=>?_)
  . try dsimp only at hp h
    refine Wx [] 0 [] Wz
  revert h;refine bT 1 [] 0 [] (Wq ?_);intro h;intros;refine Tr.block ?_;refine gy h (ctr+3) [(6,2),(5,12)] [(10,1)] (λ(v,aX) u1=>⟨[(13,vi v)],[(10,Ri aj (ctr+1) (aj.len r') (u1.t 10) aX)],λ_=>ah aX=(ah r')⟩) dN (λx dQ iN iG f ht hu hp h=>?_);obtain⟨v,_⟩:=x;try dsimp only at hp h
  refine aZ ?_;refine Wo 22 0 (ZE d' (aB 0 r' v)) λv1 h19=>?_;refine Wk [] 0 [] Wz

theorem awO t' r (h:w4 t'=some r) (lN:Int) (EG:ah t'.fl=lN) (pV:Bool):lK Tryz.prog 431 [.agg 2 (λj=>match j with|0=>.vec 0 0 1 0 lN|1=>vi t'.EY|_=>.junk)] [Ri aj 0 lN pV t'.fl] [Ri aj 0 lN pV r] (.jO 0 (λ_=>.junk)):=by
  obtain rfl:aj.len t'.fl=lN:=EG;obtain⟨q,q1⟩:=t';unfold w4 at h;try dsimp only at h
  refine QX Tryz.func431 (tC Tryz.f431) λctr hc=>?_;revert h;refine bT 2 [] 1 [] (Wq ?_);intro h;intros;refine Tr.block ?_;refine gy h (ctr+2) [(2,3),(3,39)] [] (λv u=>Fa [(8,vi v)] []) dN (λv uc ug ut f ht hu hp h=>?_);refine aZ ?_;refine Wo 17 4 (Ql ⟨q,q1⟩ (v-1)) λv1 h17=>?_;refine Wo 22 4 (Ql ⟨q,q1⟩ (v+1)) λv2 h19=>?_;refine Wk [] 1 [] Wz

theorem aiT l' wN r (h:Y4 l' wN=some r):Pf 388 [Li aj l',vi wN] (Ui aj r):=by
  unfold Y4 at h;refine bf Tryz.func388 λctr hc=>?_;refine aZ ?_;refine Wo 10 1 (mI l') λv h1=>?_;revert h;refine kK 3 [13] 0 [] (Wq ?_);intro h;intros;refine bR h (ctr+3) [(8,1),(5,10)] [(10,1)] (λo u=>⟨[],[(10,Ri aj (ctr+1) (aj.len v) (u.t 10) o)],λ_=>ah o=(ah v)⟩) (λo uc ug ut ht hu hp h=>?_) (λf h=>?_)
  . try dsimp only at hp h
    refine Wx [] 0 [] Wz
  revert h;refine bT 1 [] 0 [] (Wq ?_);intro h;intros;refine Tr.block ?_;refine Tr.rounds 8 ?_;refine kX h (ctr+4) [(8,1),(7,8)] [(10,1)] (λo1 u1=>⟨[(16,vi 1)],[(10,Ri aj (ctr+1) (aj.len v) (u1.t 10) o1)],λ_=>ah o1=(ah v)⟩) (λo1 dQ iN iG ht hu hp h=>?_) (λf h=>?_)
  . try dsimp only at hp h
    refine kX h dQ [(8,1),(7,8)] [(10,1)] (λo2 u2=>⟨[(16,vi 2)],[(10,Ri aj (ctr+1) (aj.len v) (u2.t 10) o2)],λ_=>ah o2=(ah v)⟩) (λo2 lD qW pU ht hu hp h=>?_) (λf h=>?_)
    . try dsimp only at hp h
      refine kX h lD [(8,1),(7,8)] [(10,1)] (λo3 u3=>⟨[(16,vi 3)],[(10,Ri aj (ctr+1) (aj.len v) (u3.t 10) o3)],λ_=>ah o3=(ah v)⟩) (λo3 oV BD zT ht hu hp h=>?_) (λf h=>?_)
      . try dsimp only at hp h
        refine kX h oV [(8,1),(7,8)] [(10,1)] (λo4 u4=>⟨[(16,vi 4)],[(10,Ri aj (ctr+1) (aj.len v) (u4.t 10) o4)],λ_=>ah o4=(ah v)⟩) (λo4 yN MQ JN ht hu hp h=>?_) (λf h=>?_)
        . try dsimp only at hp h
          refine kX h yN [(8,1),(7,8)] [(10,1)] (λo5 u5=>⟨[(16,vi 5)],[(10,Ri aj (ctr+1) (aj.len v) (u5.t 10) o5)],λ_=>ah o5=(ah v)⟩) (λo5 NK XU UN ht hu hp h=>?_) (λf h=>?_)
          . try dsimp only at hp h
            refine kX h NK [(8,1),(7,8)] [(10,1)] (λo6 u6=>⟨[(16,vi 6)],[(10,Ri aj (ctr+1) (aj.len v) (u6.t 10) o6)],λ_=>ah o6=(ah v)⟩) (λo6 Zf u6g u6t ht hu hp h=>?_) (λf h=>?_)
            . try dsimp only at hp h
              refine kX h Zf [(8,1),(7,8)] [(10,1)] (λo7 u7=>⟨[(16,vi 7)],[(10,Ri aj (ctr+1) (aj.len v) (u7.t 10) o7)],λ_=>ah o7=(ah v)⟩) (λo7 u7c u7g u7t ht hu hp h=>?_) (λf h=>?_)
              . try dsimp only at hp h
                refine Wxp 2 [] 0 [] Wz
              revert h;refine bT 2 [] 0 [] (Wq ?_);intro h;intros;refine bR h (Zf+1) [(8,1),(9,5)] [(10,1)] (λo8 u8=>⟨[],[(10,Ri aj (ctr+1) (aj.len v) (u8.t 10) o8)],λ_=>ah o8=(ah v)⟩) (λo8 u8c u8g u8t ht hu hp h=>?_) (λf h=>?_)
              . try dsimp only at hp h
                refine Wx [] 0 [] Wz
              refine Tr.block ?_;refine bR h (Zf+1) [(8,1),(9,2)] [] (λ_ u9=>Fa [(8,.fn (.func 434) 0 (λ_=>.junk))] []) (λx u9c u9g u9t ht hu hp h=>?_) (λf h=>?_)
              . refine aZ ?_;refine DV 22 (λr h=>awG ⟨o6,wN⟩ r h ((aj.len v)) Wy (u6t 10)) λv1 h63=>?_;refine Wk [] 0 [] Wz
              refine Wx [] 0 [] Wz
            revert h;refine bT 2 [] 0 [] (Wq ?_);intro h;intros;refine bR h (NK+1) [(8,1),(9,5)] [(10,1)] (λo9 u10=>⟨[],[(10,Ri aj (ctr+1) (aj.len v) (u10.t 10) o9)],λ_=>ah o9=(ah v)⟩) (λo9 apG aur aus ht hu hp h=>?_) (λf h=>?_)
            . try dsimp only at hp h
              refine Wx [] 0 [] Wz
            refine Tr.block ?_;refine bR h (NK+1) [(8,1),(9,2)] [] (λ_ u11=>Fa [(8,.fn (.func 433) 0 (λ_=>.junk))] []) (λx aut ayQ ayR ht hu hp h=>?_) (λf h=>?_)
            . refine aZ ?_;refine DV 22 (λr h=>awM ⟨o5,wN⟩ r h ((aj.len v)) Wy (UN 10)) λv2 h71=>?_;refine Wk [] 0 [] Wz
            refine Wx [] 0 [] Wz
          revert h;refine bT 2 [] 0 [] (Wq ?_);intro h;intros;refine bR h (yN+1) [(8,1),(9,5)] [(10,1)] (λRh u12=>⟨[],[(10,Ri aj (ctr+1) (aj.len v) (u12.t 10) Rh)],λ_=>ah Rh=(ah v)⟩) (λRh auu ayS ayT ht hu hp h=>?_) (λf h=>?_)
          . try dsimp only at hp h
            refine Wx [] 0 [] Wz
          refine Tr.block ?_;refine bR h (yN+1) [(8,1),(9,2)] [] (λ_ u13=>Fa [(8,.fn (.func 432) 0 (λ_=>.junk))] []) (λx auv ayU ayV ht hu hp h=>?_) (λf h=>?_)
          . refine aZ ?_;refine DV 22 (λr h=>awL ⟨o4,wN⟩ r h ((aj.len v)) Wy (JN 10)) λv3 h79=>?_;refine Wk [] 0 [] Wz
          refine Wx [] 0 [] Wz
        revert h;refine bT 2 [] 0 [] (Wq ?_);intro h;intros;refine bR h (oV+1) [(8,1),(9,5)] [(10,1)] (λRj u14=>⟨[],[(10,Ri aj (ctr+1) (aj.len v) (u14.t 10) Rj)],λ_=>ah Rj=(ah v)⟩) (λRj auw ayW ayX ht hu hp h=>?_) (λf h=>?_)
        . try dsimp only at hp h
          refine Wx [] 0 [] Wz
        refine Tr.block ?_;refine bR h (oV+1) [(8,1),(9,2)] [] (λ_ u15=>Fa [(8,.fn (.func 431) 0 (λ_=>.junk))] []) (λx auy ayY ayZ ht hu hp h=>?_) (λf h=>?_)
        . refine aZ ?_;refine DV 22 (λr h=>awO ⟨o3,wN⟩ r h ((aj.len v)) Wy (zT 10)) λv4 h87=>?_;refine Wk [] 0 [] Wz
        refine Wx [] 0 [] Wz
      revert h;refine bT 2 [] 0 [] (Wq ?_);intro h;intros;refine bR h (lD+1) [(8,1),(9,5)] [(10,1)] (λYZ u16=>⟨[],[(10,Ri aj (ctr+1) (aj.len v) (u16.t 10) YZ)],λ_=>ah YZ=(ah v)⟩) (λYZ auz ay0 ay1 ht hu hp h=>?_) (λf h=>?_)
      . try dsimp only at hp h
        refine Wx [] 0 [] Wz
      refine Tr.block ?_;refine bR h (lD+1) [(8,1),(9,2)] [] (λ_ u17=>Fa [(8,.fn (.func 430) 0 (λ_=>.junk))] []) (λx auA ay2 ay3 ht hu hp h=>?_) (λf h=>?_)
      . refine aZ ?_;refine DV 22 (λr h=>awK ⟨o2,wN⟩ r h ((aj.len v)) Wy (pU 10)) λv5 h95=>?_;refine Wk [] 0 [] Wz
      refine Wx [] 0 [] Wz
    revert h;refine bT 2 [] 0 [] (Wq ?_);intro h;intros;refine bR h (dQ+1) [(8,1),(9,5)] [(10,1)] (λY0 u18=>⟨[],[(10,Ri aj (ctr+1) (aj.len v) (u18.t 10) Y0)],λ_=>ah Y0=(ah v)⟩) (λY0 auB ay4 ay5 ht hu hp h=>?_) (λf h=>?_)
    . try dsimp only at hp h
      refine Wx [] 0 [] Wz
    refine Tr.block ?_;refine bR h (dQ+1) [(8,1),(9,2)] [] (λ_ u19=>Fa [(8,.fn (.func 429) 0 (λ_=>.junk))] []) (λx auC ay6 ay7 ht hu hp h=>?_) (λf h=>?_)
    . refine aZ ?_;refine DV 22 (λr h=>awJ ⟨o1,wN⟩ r h ((aj.len v)) Wy (iG 10)) λv6 aBt=>?_;refine Wk [] 0 [] Wz
    refine Wx [] 0 [] Wz
  revert h;refine bT 2 [] 0 [] (Wq ?_);intro h;intros;refine bR h (ctr+5) [(8,1),(9,5)] [(10,1)] (λY1 u20=>⟨[],[(10,Ri aj (ctr+1) (aj.len v) (u20.t 10) Y1)],λ_=>ah Y1=(ah v)⟩) (λY1 auD ay8 ay9 ht hu hp h=>?_) (λf h=>?_)
  . try dsimp only at hp h
    refine Wx [] 0 [] Wz
  refine Tr.block ?_;refine bR h (ctr+5) [(8,1),(9,2)] [] (λ_ u21=>Fa [(8,.fn (.func 428) 0 (λ_=>.junk))] []) (λx auE aza azb ht hu hp h=>?_) (λf h=>?_)
  . refine aZ ?_;refine DV 22 (λr h=>awN ⟨v,wN⟩ r h ((aj.len v)) Wy (false)) λv7 aBu=>?_;refine Wk [] 0 [] Wz
  refine Wx [] 0 [] Wz

theorem abD d' r' r (h:WC d' r'=some r):Pf 392 [dF aj d',vi r'] (vi r):=by
  unfold WC at h;refine bf Tryz.func392 λctr hc=>?_;refine aZ ?_;refine Wi 8 0 h sB (Nw _ _) λv h1=>?_;refine Wk [] 0 [] Wz

theorem AL at' side cap0 iI cap2 r (h:xk at' side cap0 iI cap2=some r):Pf 391 [vi at',vi side,.gX 1 1 (λ_ j=>(.mp .i64 .i64 cap0)) 0 0,.gX 6 1 (λ_ j=>(Io aj iI j)) 0 0,.gX 1 1 (λ_ j=>(Li aj cap2)) 0 0] (vb r):=by
  unfold xk at h;refine bf Tryz.func391 λctr hc=>?_;refine aZ ?_;refine om 17 0 h (sC sB) (abD _ _) λv h2=>?_;refine Wk [] 0 [] Wz

theorem U1 d' r' at' r (h:LK d' r' at'=some r):Pf 354 [dF aj d',Li aj r',vi at'] (vi r):=by
  unfold LK at h;refine bf Tryz.func354 λctr hc=>?_;revert h;refine bT 2 [] 0 [] (Wq ?_);intro h;intros;refine bR h (ctr+2) [(6,2),(8,16)] [] (λ_ u=>Fa [] []) (λx uc ug ut ht hu hp h=>?_) (λf h=>?_)
  . refine Wx [] 0 [] Wz
  revert h;refine bT 1 [] 0 [] (Wq ?_);intro h;intros;refine Tr.block ?_;refine gy h (ctr+3) [(6,2),(10,14)] [] (λ_ u1=>Fa [(7,vi ((std Tryz.prog).add at' 1))] []) dN (λx dQ iN iG f ht hu hp h=>?_);refine aZ ?_;refine Wi 29 0 h (sT (sC sB)) (abD _ _) λv h8=>?_;refine Wk [] 0 [] Wz

theorem afu d' r' levels base r (h:Uf d' r' levels base=some r):Pf 288 [dF aj d',Li aj r',Li aj levels,vi base] (Ui aj r):=by
  unfold Uf at h;refine bf Tryz.func288 λctr hc=>?_;refine aZ ?_;refine Wo 14 1 (mI levels) λv h1=>?_;revert h;refine kK 4 [] 0 [] (Wq ?_);intro h;intros;refine bR h (ctr+4) [(10,3),(8,34)] [(14,1)] (λout u=>⟨[],[(14,Ri aj (ctr+1) (aj.len v) (u.t 14) out)],λ_=>ah out=(ah v)⟩) (λout uc ug ut ht hu hp h=>?_) (λf h=>?_)
  . try dsimp only at hp h
    refine Wx [] 0 [] Wz
  revert h;refine bT 1 [] 0 [] (Wq ?_);intro h;intros;refine Tr.block ?_;refine gy h (ctr+5) [(10,3),(11,31)] [(14,1)] (λ(end',i1,aX) u1=>⟨[(10,vb end'),(11,vi i1)],[(14,Ri aj (ctr+1) (aj.len v) (u1.t 14) aX)],λ_=>ah aX=(ah v)⟩) dN (λx dQ iN iG f ht hu hp h=>?_);obtain⟨_,i1,_⟩:=x;try dsimp only at hp h
  refine aZ ?_;refine Wo 33 0 (ZE d' (aB 0 r' i1)) λv1 h31=>?_;refine Wo 47 0 (aed v1) λv2 h32=>?_;refine Wk [] 0 [] Wz

theorem FX s r (h:rA s=some r):Pf 69 [aS aj s] (pJ aj r):=by
  unfold rA at h;refine bf Tryz.func69 λctr hc=>?_;refine aZ ?_;refine Wo 12 0 (zL s.fC) λv h1=>?_;refine Wk [] 0 [] Wz

theorem QG s r (h:AB s=some r):Pf 32 [aV aj s] (qw aj r):=by
  unfold AB at h;refine bf Tryz.func32 λctr hc=>?_;refine aZ ?_;refine Wo 5 0 (FX s.aI) λv h1=>?_;refine Wo 8 0 (FX s.aM) λv1 h2=>?_;refine Wo 18 0 (zL s.aC.x0) λv2 h3=>?_;refine Wo 22 0 (zL s.aC.x1) λv3 h4=>?_;refine Wk [] 0 [] Wz

end Go.Vx
