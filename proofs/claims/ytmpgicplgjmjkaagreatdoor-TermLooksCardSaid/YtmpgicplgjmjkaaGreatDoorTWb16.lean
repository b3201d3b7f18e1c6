/- Walks, by program (lift5.py): the code does what the lifted functions say. -/
import Derived.Test.YtmpgicplgjmjkaaGreatDoorTWb10
import Derived.Test.YtmpgicplgjmjkaaGreatDoorTWb9
import Derived.Test.YtmpgicplgjmjkaaGreatDoorTWb11
import Derived.Test.YtmpgicplgjmjkaaGreatDoorTWb12
set_option linter.all false
section
namespace Go.Vx
open Go.Proofs
set_option maxRecDepth 100000
set_option maxHeartbeats 8000000
set_option linter.unusedVariables false
set_option linter.unusedSimpArgs false
attribute [local irreducible] chk aA au aO oH

theorem XZ h' w kept r (h:p9 h' w kept=some r):Pf 29 [vi h',vi w,vi kept] (aV aj r):=by
  unfold p9 at h;refine bf Tryz.func29 λctr hc=>?_;refine aZ ?_;refine Wo 12 0 (Nq h' w) λv h1=>?_;obtain⟨⟨q,q1,q2,q3,⟨q4,q5,q6⟩,⟨⟨q7,q8,q9,BG⟩,BH,BI,BJ⟩⟩,⟨_,_,_,_⟩⟩:=v;refine Wo 18 0 (XV h' w kept) λv1 h2=>?_;refine Wo 21 0 (XV h' w 0) λv2 h3=>?_;refine Wo 22 0 (Qb) λv3 h4=>?_;refine Wo 27 0 (xQ ⟨v1,v2,false,v3,⟨⟨q,q1,q2,q3,⟨q4,q5,q6⟩,⟨⟨q7,q8,q9,BG⟩,BH,BI,BJ⟩⟩,⟨q,q1,q2,q3,⟨q4,q5,q6⟩,⟨⟨q7,q8,q9,BG⟩,BH,BI,BJ⟩⟩⟩,([]:List Int),ByteArray.empty,0⟩) λv4 h5=>?_;refine Wk [] 0 [] Wz

theorem TW h' w kept r (h:yC h' w kept=some r):Pf 9 [vi h',vi w,vi kept] (jK aj r):=by
  unfold yC at h;refine bf Tryz.func9 λctr hc=>?_;refine aZ ?_;refine Wo 10 0 (XZ h' w kept) λv h1=>?_;refine Wk [] 0 [] Wz

theorem ad5 s u u1 r (h:vK s u u1=some r):Pf 131 [aV aj s,dF aj u,gG aj u1] (aV aj r):=by
  unfold vK at h;refine bf Tryz.func131 λctr hc=>?_;refine aZ ?_;refine Wi 20 0 h sB (XZ _ _ _) λv h1=>?_;refine Wk [] 0 [] Wz

end Go.Vx
end

section
namespace Go.Vx
open Go.Proofs
set_option maxRecDepth 100000
set_option maxHeartbeats 8000000
set_option linter.unusedVariables false
set_option linter.unusedSimpArgs false
attribute [local irreducible] chk aA au aO oH

theorem amb v a0 r (h:aaf v a0=some r):Pf (aj.fF v) ([aV aj a0]++cellsOf (aj.fK v) (aj.fC v)) (vs r):=by
  unfold aaf at h;split at h
  . exact U4 a0 r h
  . exact Zu a0 r h
  . exact Zv a0 r h
  cases h

theorem Zw s u a cap0 iI r (h:xC s u a cap0 iI=some r):Pf 262 [aV aj s,dF aj u,gG aj a,.gX 1 1 (λ_ j=>(vi cap0)) 0 0,.gX 1 1 (λ_ j=>(.fn (.func (aj.fF iI)) (aj.fK iI) (aj.fC iI))) 0 0] (aV aj r):=by
  unfold xC at h;refine bf Tryz.func262 λctr hc=>?_;refine aZ ?_;refine Wo 10 0 (zI a) λv h1=>?_;refine Wov 17 (amb iI s) λv1 h2=>?_;refine Wo 18 0 (AJ s v1) λv2 h3=>?_;refine Wk [999] 0 [] Wz

theorem aa3 d' r' dir r (h:KF d' r' dir=some r):Pf 289 [dF aj d',Li aj r',vi dir] (.jO 2 (λj=>match j with|0=>(Li aj r.1)|1=>(vi r.2)|_=>.junk)):=by
  unfold KF at h;refine bf Tryz.func289 λctr hc=>?_;refine aZ ?_;refine Wo 12 1 (ad6 d' r') λv h1=>?_;refine Wo 26 3 (afr d' r' v dir) λv1 h2=>?_;refine Wk [] 0 [] Wz

theorem ai4 d' l' from' to boxes r (h:Y8 d' l' from' to boxes=some r):Pf 195 [dF aj d',lX aj l',vi from',vi to,vb boxes] (Pm aj r):=by
  unfold Y8 at h;refine bf Tryz.func195 λctr hc=>?_;refine aZ ?_;refine Wi 18 1 h (sC sB) (U0 _) λv h2=>?_;refine Wi 27 0 h (sC (sK v (sC sB))) (aa3 _ _ _) λv1 h4=>?_;obtain⟨q,_⟩:=v1;refine Wo 37 1 (adZ d' v q boxes) λv2 h5=>?_;refine Wk [] 0 [(2,[.freeze (.slot 11)])] Wz

theorem akl d' l' y' boxes r (h:acf d' l' y' boxes=some r):Pf 89 [dF aj d',lX aj l',vi y',vb boxes] (.jO 2 (λj=>match j with|0=>(FJ aj r.1)|1=>(vb r.2)|_=>.junk)):=by
  unfold acf at h;refine bf Tryz.func89 λctr hc=>?_;refine aZ ?_;refine om 22 0 h sB (ai5 _) λv h1=>?_;refine Wo 39 0 (ag0 l' y') λv1 h3=>?_;obtain⟨q,q1⟩:=v1;refine Wo 50 0 (ai4 d' l' q q1 boxes) λv2 h4=>?_;refine Wo 51 0 (akj d' l' y' v2) λv3 h5=>?_;refine Wk [] 0 [] Wz

theorem qC a b r (h:lF a b=some r):Pf 10 [oC aj a,oC aj b] (vb r):=by
  obtain⟨⟨_⟩,⟨_,_,_,⟨_,_⟩,_,_⟩,⟨⟨⟨_⟩,⟨_,_,_,_,⟨_,_,_⟩,⟨⟨_,_,_,_⟩,_,_,_⟩⟩,⟨_,_,_,_⟩,⟨_,_⟩,⟨_,_⟩,_,_⟩,⟨⟨_⟩,⟨_,_,_,_,⟨_,_,_⟩,⟨⟨_,_,_,_⟩,_,_,_⟩⟩,⟨_,_,_,_⟩,⟨_,_⟩,⟨_,_⟩,_,_⟩,_,⟨_⟩,⟨⟨_,_,_,_,⟨_,_,_⟩,⟨⟨_,_,_,_⟩,_,_,_⟩⟩,⟨_,_,_,_,⟨_,_,_⟩,⟨⟨_,_,_,_⟩,_,_,_⟩⟩⟩,_,_,_⟩,_⟩:=a;obtain⟨⟨_⟩,⟨_,_,_,⟨_,_⟩,_,_⟩,⟨⟨⟨_⟩,⟨_,_,_,_,⟨_,_,_⟩,⟨⟨_,_,_,_⟩,_,_,_⟩⟩,⟨_,_,_,_⟩,⟨_,_⟩,⟨_,_⟩,_,_⟩,⟨⟨_⟩,⟨_,_,_,_,⟨_,_,_⟩,⟨⟨_,_,_,_⟩,_,_,_⟩⟩,⟨_,_,_,_⟩,⟨_,_⟩,⟨_,_⟩,_,_⟩,_,⟨_⟩,⟨⟨_,_,_,_,⟨_,_,_⟩,⟨⟨_,_,_,_⟩,_,_,_⟩⟩,⟨_,_,_,_,⟨_,_,_⟩,⟨⟨_,_,_,_⟩,_,_,_⟩⟩⟩,_,_,_⟩,_⟩:=b;unfold lF at h;try dsimp only at h
  refine bf Tryz.func10 λctr hc=>?_;refine aZ ?_;refine om 19 0 h sB (WU _ _) λv h1=>?_;refine om 26 0 h (sK v sB) (WK _ _) λv1 h2=>?_;refine Wk [] 0 [] Wz

end Go.Vx
end

section
namespace Go.Vx
open Go.Proofs
set_option maxRecDepth 100000
set_option maxHeartbeats 8000000
set_option linter.unusedVariables false
set_option linter.unusedSimpArgs false
attribute [local irreducible] chk aA au aO oH

theorem aa4 text r (h:Ew text=some r):Pf 19 [vs text,.fn (.func 21) 0 (λ_=>.junk)] (Em aj r):=by
  unfold Ew at h;refine bf Tryz.func19 λctr hc=>?_;revert h;refine bT 2 [] 0 [] (Wq ?_);intro h;intros;refine bR h (ctr+2) [(7,50)] [(5,1),(5,1),(42,1)] (λo u=>Fa [] [(5,.box (ctr+1) [.vec 54 (u.g 54) 3 0 (aj.len o)]),(54,qy aj (u.g 54) (aj.len o) (u.t 54) o)]) (λo uc ug ut ht hu hp h=>?_) (λf h=>?_)
  . refine Wx [] 0 [] Wz
  refine aZ ?_;refine Wi 11 1 h sB (wC _ _) λv h24=>?_;revert h;refine kK 1 [] 0 [] (Wq ?_);intro h;intros;refine Tr.block ?_;refine gy h (ctr+3) [(7,3),(3,44)] [(5,1),(48,1)] (λ(v1,o1) u1=>Fa [(13,vi v1)] [(5,.box (ctr+1) [.vec 54 (u1.g 54) 3 0 (aj.len o1)]),(54,qy aj (u1.g 54) (aj.len o1) (u1.t 54) o1)]) dN (λx dQ iN iG f ht hu hp h=>?_);obtain⟨_,o1⟩:=x;try dsimp only at hp h
  revert h;refine bT 2 [] 0 [] (Wq ?_);intro h;intros;refine bR h (dQ+1) [(7,3),(5,41)] [(5,1),(3,1),(8,1),(35,1)] (λo2 u2=>⟨[],[(5,.box (ctr+1) [.vec 54 (u2.g 54) 3 0 ((std Tryz.prog).add (aj.len o1) 1)]),(54,qy aj (u2.g 54) ((std Tryz.prog).add (aj.len o1) 1) (u2.t 54) o2)],λ_=>ah o2=((ah o1)+1)⟩) (λo2 lD qW pU ht hu hp h=>?_) (λf h=>?_)
  . try dsimp only at hp h
    refine Wx [] 0 [] Wz
  refine Tr.block ?_;refine aZ ?_;refine Wi 18 1 h (sC sB) (DW _) λv2 h59=>?_;revert h;refine kK 3 [] 0 [] (Wq ?_);intro h;intros;refine bR h (dQ+4) [(19,25)] [(9,1)] (λ(I5,PO,PS) u3=>Fa [] [(9,.box (dQ+3) [vi I5,vi PO,vi PS])]) (λx oV BD zT ht hu hp h=>?_) (λf h=>?_)
  . obtain⟨_,_,_⟩:=x;try dsimp only at hp h
    refine Wx [53] 0 [] Wz
  revert h;refine bT 1 [] 0 [] (Wq ?_);intro h;intros;refine Tr.block ?_;refine bR h (dQ+5) [(21,9)] [(9,1)] (λDa u4=>Fa [] [(9,.box (dQ+3) [vi 0,vi Da,vi 0])]) (λDa yN MQ JN ht hu hp h=>?_) (λf h=>?_)
  . refine aZ ?_;refine Wi 33 0 h (sC sB) (oQ _) λv3 h71=>?_;refine Wi 41 0 h (sC (sK v3 (sC (sC sB)))) (adT _) λv4 h74=>?_;refine Wk [] 0 [] Wz
  refine aZ ?_;refine Wi 28 0 h (sT (sC sB)) (oQ _) λv5 h76=>?_;refine Wk [] 0 [] Wz

theorem LD r (h:Az=some r):Pf 7 [] (dF aj r):=by
  unfold Az at h;refine bf Tryz.func7 λctr hc=>?_;refine aZ ?_;refine Wo 1 0 (Zn kS1) λv h1=>?_;refine Wo 2 0 (aa4 kS2) λv1 h2=>?_;refine Wo 3 0 (aa0 kS3) λv2 h3=>?_;refine Wo 4 1 (Zo kS4) λv3 h4=>?_;refine Wo 5 1 (Zo kS5) λv4 h5=>?_;refine Wo 6 1 (aiU kS6) λv5 h6=>?_;refine Wk [] 0 [] Wz

theorem WV r' cap0 iI cap2 aax aay Oo r (h:yU r' cap0 iI cap2 aax aay Oo=some r):Pf 312 [gH aj r',.gX 1 1 (λ_ j=>(vi cap0)) 0 0,.gX 1 1 (λ_ j=>(vi iI)) 0 0,.gX 1 1 (λ_ j=>(vi cap2)) 0 0,.gX 3 1 (λ_ j=>Qg [(0,.int .i64 aax),(1,.int .i64 aay),(2,.int .i64 Oo)] j) 0 0] (gH aj r):=by
  unfold yU at h;refine bf Tryz.func312 λctr hc=>?_;refine aZ ?_;refine Wi 12 0 h sB (ag9 _ _ _ _ _) λv h1=>?_;refine Wk [] 0 [] Wz

theorem QH r' cap0 iI Ez EA uX r (h:qd r' cap0 iI Ez EA uX=some r):Pf 249 [gH aj r',.gX 1 1 (λ_ j=>(vi cap0)) 0 0,.gX 1 1 (λ_ j=>(vi iI)) 0 0,.gX 3 1 (λ_ j=>Qg [(0,.int .i64 Ez),(1,.int .i64 EA),(2,.int .i64 uX)] j) 0 0] (gH aj r):=by
  obtain⟨_,_,_,_⟩:=r';unfold qd at h;try dsimp only at h
  refine bf Tryz.func249 λctr hc=>?_;refine aZ ?_;refine Wi 14 0 h sB (aha _ _ _ _ _) λv h1=>?_;refine Wk [] 0 [] Wz

theorem amc v a0 r (h:aao v a0=some r):Pf (aj.fF v) ([gH aj a0]++cellsOf (aj.fK v) (aj.fC v)) (gH aj r):=by
  unfold aao at h;split at h
  . exact aa5 a0 _ r h
  . exact Zx a0 _ _ _ _ _ r h
  . exact WV a0 _ _ _ _ _ _ r h
  . exact aa6 a0 _ _ _ _ _ _ _ _ _ r h
  . exact acv a0 _ _ r h
  . exact QH a0 _ _ _ _ _ r h
  cases h

theorem mZ s steps r (h:kQ s steps=some r):Pf 215 [aS aj s,(.sl 1 (aj.len steps) false (λix jx=>(.fn (.func (aj.fF (aj.get V9 steps ix))) (aj.fK (aj.get V9 steps ix)) (aj.fC (aj.get V9 steps ix)))))] (aS aj r):=by
  obtain⟨⟨q⟩,⟨_,q2,_,_,⟨_,_,_⟩,⟨⟨_,_,_,_⟩,_,_,_⟩⟩,⟨_,_,_,_⟩,⟨_,_⟩,⟨_,_⟩,_,_⟩:=s;unfold kQ at h;try dsimp only at h
  refine bf Tryz.func215 λctr hc=>?_;revert h;refine bT 2 [] 0 [] (Wq ?_);intro h;intros;refine bR h (ctr+2) [(7,1),(8,10)] [(5,1)] (λr' u=>Fa [] [(5,.box (ctr+1) (cellsOf 4 λj=>(gB aj r' j)))]) (λr' uc ug ut ht hu hp h=>?_) (λf h=>?_)
  . refine aZ ?_;refine Wo 32 0 (akm ⟨q⟩ q2 r') λv h8=>?_;refine Wk [] 0 [] Wz
  revert h;refine bT 1 [] 0 [] (Wq ?_);intro h;intros;refine Tr.block ?_;refine gy h (ctr+3) [(7,1),(10,8)] [(5,1)] (λ(v1,Q9) u1=>Fa [(18,vi v1)] [(5,.box (ctr+1) (cellsOf 4 λj=>(gB aj Q9 j)))]) dN (λx dQ iN iG f ht hu hp h=>?_);obtain⟨_,_⟩:=x;try dsimp only at hp h
  refine aZ ?_;refine Wiv 24 h (sT (sC sB)) (amc _ _) λv2 h16=>?_;refine Wk [] 0 [] Wz

theorem Zy x' n cap0 r (h:xL x' n cap0=some r):Pf 239 [aS aj x',vi n,.gX 1 1 (λ_ j=>(.fn (.func (aj.fF cap0)) (aj.fK cap0) (aj.fC cap0))) 0 0] (aS aj r):=by
  obtain⟨⟨_⟩,⟨_,_,_,_,⟨_,_,_⟩,⟨⟨_,_,_,_⟩,_,_,_⟩⟩,⟨_,_,_,_⟩,⟨_,_⟩,⟨_,_⟩,_,_⟩:=x';unfold xL at h;try dsimp only at h
  refine bf Tryz.func239 λctr hc=>?_;refine aZ ?_;refine Wiv 12 h sB (an8 _ _ _ _) λv h1=>?_;refine Wk [] 0 [] Wz

theorem Nu g' from' to p' r (h:Ae g' from' to p'=some r):Pf 245 [kW aj g',vi from',vi to,jN aj p'] (kW aj r):=by
  obtain⟨q⟩:=g';unfold Ae at h;try dsimp only at h
  refine bf Tryz.func245 λctr hc=>?_;refine aZ ?_;refine Wo 13 0 (U2 ⟨q⟩ p') λv h1=>?_;refine Wo 28 1 (Jk ⟨q⟩) λv1 h2=>?_;refine DV 42 (λr h=>LM v1 (0+(aY 0 (aP from' (ah q)))) ((aY (aY 0 (aP from' (ah q))) (aY 0 (aP to (ah q))))-(aY 0 (aP from' (ah q)))) (ah (aB aH q 0).aN) p' r h ((aj.len v1)) Wy (false)) λv2 h5=>?_;refine Wk [] 0 [] Wz

end Go.Vx
end
