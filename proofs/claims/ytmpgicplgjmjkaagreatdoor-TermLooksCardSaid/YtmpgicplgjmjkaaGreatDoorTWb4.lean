/- Walks, by program (lift5.py): the code does what the lifted functions say. -/
import Derived.Test.YtmpgicplgjmjkaaGreatDoorTPi
import Derived.Test.YtmpgicplgjmjkaaGreatDoorTCh
set_option linter.all false
namespace Go.Vx
open Go.Proofs
set_option maxRecDepth 100000
set_option maxHeartbeats 8000000
set_option linter.unusedVariables false
set_option linter.unusedSimpArgs false
attribute [local irreducible] chk aA au aO oH

theorem Qn a0 r (h:Hu a0=some r):Pf 362 [vs a0] (vb r):=by cases h

theorem abe s r (h:strings_Fields s=some r):Pf 48 [vs s] (Us aj r):=by
  unfold strings_Fields at h;refine bf Tryz.func48 λctr hc=>?_;revert h;refine bT 4 [] 0 [] (Wq ?_);intro h;intros;refine bR h (ctr+4) [(3,6),(4,23)] [] (λ(n,setBits) u=>Fa [(3,vi n),(5,vu setBits)] []) (λx uc ug ut ht hu hp h=>?_) (λf h=>?_)
  . obtain⟨n,_⟩:=x;try dsimp only at hp h
    revert h;refine bT 5 [] 0 [] (Wq ?_);intro h;intros;refine bR h (uc+5) [(12,1),(29,14)] [(41,1)] (λ_ u1=>Fa [(12,vi 0)] [(41,Rs aj (uc+1) n (u1.t 41) (aj.rep n ByteArray.empty))]) (λx dQ iN iG ht hu hp h=>?_) (λf h=>?_)
    . revert h;refine bT 1 [] 0 [] (Wq ?_);intro h;intros;refine bR h (dQ+1) [(10,3),(44,38)] [(41,1)] (λ(na,fieldStart,a) u2=>⟨[(10,vi na),(11,vi fieldStart)],[(41,Rs aj (uc+1) n (u2.t 41) a)],λ_=>ah a=n⟩) (λx lD qW pU ht hu hp h=>?_) (λf h=>?_)
      . obtain⟨_,_,_⟩:=x;try dsimp only at hp h
        refine Wx [] 0 [] Wz
      refine Tr.block ?_;refine gy h (dQ+1) [(10,3),(44,38)] [(41,1)] (λ(XT,pY,i,a1) u3=>⟨[(10,vi XT),(11,vi pY),(12,vi i)],[(41,Rs aj (uc+1) n (u3.t 41) a1)],λ_=>ah a1=n⟩) dN (λx oV BD zT f ht hu hp h=>?_);obtain⟨XT,pY,i,a1⟩:=x;try dsimp only at hp h
      revert h;refine bT 1 [] 0 [] (Wq ?_);intro h;intros;refine Tr.block ?_;revert h;refine bT 4 [] 0 [] (Wq ?_);intro h;intros;refine bR h (oV+5) [(12,1),(67,14)] [(41,1)] (λ_ u4=>Fa [(12,vi ((std Tryz.prog).add i 1))] [(41,Rs aj (uc+1) n (u4.t 41) (aj.set a1 XT ((std Tryz.prog).aje s pY i)))]) (λx yN MQ JN ht hu hp h=>?_) (λf h=>?_)
      . refine Wx [] 0 [] Wz
      refine Tr.block ?_;refine gy h (oV+5) [(12,1),(67,14)] [(41,1)] (λ_ u5=>Fa [(12,vi ((std Tryz.prog).add i 1))] [(41,Rs aj (uc+1) n (u5.t 41) (aj.set a1 XT ((std Tryz.prog).aje s pY i)))]) dN (λx NK XU UN f ht hu hp h=>?_);refine Wx [] 0 [] Wz
    refine Tr.block ?_;refine gy h (uc+5) [(12,1),(29,14)] [(41,1)] (λ_ u6=>Fa [(12,vi 0)] [(41,Rs aj (uc+1) n (u6.t 41) (aj.rep n ByteArray.empty))]) dN (λx Zf u6g u6t f ht hu hp h=>?_);refine Wx [] 0 [] Wz
  revert h;refine bT 1 [] 0 [] (Wq ?_);intro h;intros;refine Tr.block ?_;refine gy h (ctr+5) [(3,6),(4,23)] [] (λ(n1,wasSpace,Wh,i3) u7=>Fa [(3,vi n1),(4,vi wasSpace),(5,vu Wh),(6,vi i3)] []) dN (λx u7c u7g u7t f ht hu hp h=>?_);obtain⟨_,_,_,_⟩:=x;try dsimp only at hp h
  refine Wx [] 0 [] Wz

theorem zK r (h:yH=some r):Pf 107 [] (iT aj r):=by
  unfold yH at h;refine bf Tryz.func107 λctr hc=>?_;refine Wx [] 0 [] Wz

theorem Nr s r (h:xE s=some r):Pf 34 [iJ aj s] (vb r):=by
  obtain⟨_,_,_,⟨_,_⟩,_,_⟩:=s;unfold xE at h;try dsimp only at h
  refine bf Tryz.func34 λctr hc=>?_;refine aZ ?_;refine om 29 0 h sB (UK _) λv h1=>?_;revert h;refine kK 2 [] 0 [] (Wq ?_);intro h;intros;refine bR h (ctr+2) [(2,4),(26,31)] [] (λ_ u=>Fa [] []) (λx uc ug ut ht hu hp h=>?_) (λf h=>?_)
  . refine Wx [] 0 [] Wz
  revert h;refine bT 1 [] 0 [] (Wq ?_);intro h;intros;refine Tr.block ?_;refine gy h (ctr+3) [(2,4),(29,28)] [] (λv1 u1=>Fa [(35,vi v1)] []) dN (λv1 dQ iN iG f ht hu hp h=>?_);refine Wx [] 0 [] Wz

theorem Qd c' r' r (h:wX c' r'=some r):Pf 180 [gu aj c',iD aj r'] (vb r):=by
  obtain⟨_,_,_,_,⟨_,_,_⟩,⟨⟨_,_,_,_⟩,_,_,_⟩⟩:=c';obtain⟨_,_,_,_⟩:=r';unfold wX at h;try dsimp only at h
  refine bf Tryz.func180 λctr hc=>?_;refine Wx [] 0 [] Wz

theorem MV which r (h:tY which=some r):Pf 211 [vi which] (vb r):=by
  unfold tY at h;refine bf Tryz.func211 λctr hc=>?_;refine Wx [] 0 [] Wz

theorem zF s r (h:vg s=some r):Pf 175 [nC aj s] (vb r):=by
  obtain⟨_,_⟩:=s;unfold vg at h;try dsimp only at h
  refine bf Tryz.func175 λctr hc=>?_;revert h;refine bT 3 [] 0 [] (Wq ?_);intro h;intros;refine bR h (ctr+3) [(2,2),(1,1),(8,18)] [] (λ_ u=>Fa [] []) (λx uc ug ut ht hu hp h=>?_) (λf h=>?_)
  . refine Wx [] 0 [] Wz
  revert h;refine bT 1 [] 0 [] (Wq ?_);intro h;intros;refine Tr.block ?_;refine gy h (ctr+4) [(2,2),(1,1),(11,15)] [] (λ(ahead,v) u1=>Fa [(3,vi ahead),(17,vi v)] []) dN (λx dQ iN iG f ht hu hp h=>?_);obtain⟨_,_⟩:=x;try dsimp only at hp h
  refine Wx [] 0 [] Wz

theorem Jj r' r (h:DN r'=some r):Pf 74 [iD aj r'] (iD aj r):=by
  unfold DN at h;refine bf Tryz.func74 λctr hc=>?_;refine Wx [] 0 [] Wz

theorem Qe t' r (h:Du t'=some r):Pf 36 [jK aj t'] (vD aj r):=by
  obtain⟨⟨_⟩,⟨_,_,_,⟨_,_⟩,_,_⟩,⟨⟨⟨_⟩,⟨_,_,_,_,⟨_,_,_⟩,⟨⟨_,_,_,_⟩,_,_,_⟩⟩,⟨_,_,_,_⟩,⟨_,_⟩,⟨_,_⟩,_,_⟩,⟨⟨_⟩,⟨_,_,_,_,⟨_,_,_⟩,⟨⟨_,_,_,_⟩,_,_,_⟩⟩,⟨_,_,_,_⟩,⟨_,_⟩,⟨_,_⟩,_,_⟩,_,⟨_⟩,⟨⟨_,_,_,_,⟨_,_,_⟩,⟨⟨_,_,_,_⟩,_,_,_⟩⟩,⟨_,_,_,_,⟨_,_,_⟩,⟨⟨_,_,_,_⟩,_,_,_⟩⟩⟩,_,_,_⟩,_⟩:=t';unfold Du at h;try dsimp only at h
  refine bf Tryz.func36 λctr hc=>?_;refine Wx [] 0 [] Wz

theorem eD s r (h:eH s=some r):Pf 44 [aV aj s] (aS aj r):=by
  obtain⟨⟨⟨_⟩,⟨_,_,_,_,⟨_,_,_⟩,⟨⟨_,_,_,_⟩,_,_,_⟩⟩,⟨_,_,_,_⟩,⟨_,_⟩,⟨_,_⟩,_,_⟩,⟨⟨_⟩,⟨_,_,_,_,⟨_,_,_⟩,⟨⟨_,_,_,_⟩,_,_,_⟩⟩,⟨_,_,_,_⟩,⟨_,_⟩,⟨_,_⟩,_,_⟩,_,⟨_⟩,⟨⟨_,_,_,_,⟨_,_,_⟩,⟨⟨_,_,_,_⟩,_,_,_⟩⟩,⟨_,_,_,_,⟨_,_,_⟩,⟨⟨_,_,_,_⟩,_,_,_⟩⟩⟩,_,_,_⟩:=s;unfold eH at h;try dsimp only at h
  refine bf Tryz.func44 λctr hc=>?_;refine Wx [] 0 [] Wz

theorem AR s c' at' r (h:qR s c' at'=some r):Pf 207 [iJ aj s,vu c',vi at'] (iJ aj r):=by
  obtain⟨_,_,_,⟨_,_⟩,_,_⟩:=s;unfold qR at h;try dsimp only at h
  refine bf Tryz.func207 λctr hc=>?_;refine Wx [14] 0 [] Wz

theorem NV s c' r (h:vB s c'=some r):Pf 208 [iJ aj s,vu c'] (.jO 2 (λj=>match j with|0=>(iJ aj r.1)|1=>(tu aj r.2)|_=>.junk)):=by
  obtain⟨_,_,_,⟨_,_⟩,_,_⟩:=s;unfold vB at h;try dsimp only at h
  refine bf Tryz.func208 λctr hc=>?_;refine Wx [17,999] 0 [] Wz

theorem Jk g' r (h:vk g'=some r):Pf 322 [kW aj g'] (YG aj r):=by
  obtain⟨_⟩:=g';unfold vk at h;try dsimp only at h
  refine bf Tryz.func322 λctr hc=>?_;refine Wx [] 0 [] Wz

theorem Jl on r (h:vW on=some r):Pf 251 [vb on] ((.fn (.func (aj.fF r)) (aj.fK r) (aj.fC r))):=by
  unfold vW at h;refine bf Tryz.func251 λctr hc=>?_;refine Wx [] 0 [] Wz

theorem MR at' n right p' r (h:xK at' n right p'=some r):Pf 219 [vi at',vi n,vi right,jN aj p'] ((.fn (.func (aj.fF r)) (aj.fK r) (aj.fC r))):=by
  obtain⟨_,_,_⟩:=p';unfold xK at h;try dsimp only at h
  refine bf Tryz.func219 λctr hc=>?_;refine Wx [] 0 [] Wz

theorem afJ from' cap0 r (h:FE from' cap0=some r):Pf 316 [vi from',.gX 2 1 (λ_ j=>(DF aj cap0 j)) 0 0] (vi r):=by
  obtain⟨_,_⟩:=cap0;unfold FE at h;try dsimp only at h
  refine bf Tryz.func316 λctr hc=>?_;revert h;refine bT 1 [] 0 [] (Wq ?_);intro h;intros;refine bR h (ctr+1) [(3,22)] [] (λ_ u=>Fa [] []) (λx uc ug ut ht hu hp h=>?_) (λf h=>?_)
  . refine Wx [] 0 [] Wz
  revert h;refine bT 1 [] 0 [] (Wq ?_);intro h;intros;refine Tr.block ?_;refine gy h (ctr+2) [(3,2),(4,16)] [] (λi1 u1=>Fa [(4,vi i1)] []) dN (λi1 dQ iN iG f ht hu hp h=>?_);refine Wx [] 0 [] Wz

theorem AO from' to p' r (h:uy from' to p'=some r):Pf 252 [vi from',vi to,jN aj p'] ((.fn (.func (aj.fF r)) (aj.fK r) (aj.fC r))):=by
  obtain⟨_,_,_⟩:=p';unfold uy at h;try dsimp only at h
  refine bf Tryz.func252 λctr hc=>?_;refine Wx [] 0 [] Wz

theorem EH l' inter final r (h:oG l' inter final=some r):Pf 55 [Br aj l',vs inter,vu final] ((.fn (.func (aj.fF r)) (aj.fK r) (aj.fC r))):=by
  unfold oG at h;refine bf Tryz.func55 λctr hc=>?_;revert h;refine bT 1 [] 0 [] (Wq ?_);intro h;intros;refine bR h (ctr+1) [(6,1),(1,20)] [] (λ_ u=>Fa [] []) (λx uc ug ut ht hu hp h=>?_) (λf h=>?_)
  . refine Wx [] 0 [] Wz
  revert h;refine bT 1 [] 0 [] (Wq ?_);intro h;intros;refine Tr.block ?_;refine gy h (ctr+2) [(6,1),(1,1),(2,17)] [(8,1)] (λv u1=>Fa [(11,vi v)] []) dN (λv dQ iN iG f ht hu hp h=>?_);refine Wx [] 0 [] Wz

theorem Jd s r (h:vL s=some r):Pf 237 [aV aj s] (vi r):=by
  obtain⟨⟨⟨_⟩,⟨_,_,_,_,⟨_,_,_⟩,⟨⟨_,_,_,_⟩,_,_,_⟩⟩,⟨_,_,_,_⟩,⟨_,_⟩,⟨_,_⟩,_,_⟩,⟨⟨_⟩,⟨_,_,_,_,⟨_,_,_⟩,⟨⟨_,_,_,_⟩,_,_,_⟩⟩,⟨_,_,_,_⟩,⟨_,_⟩,⟨_,_⟩,_,_⟩,_,⟨_⟩,⟨⟨_,_,_,_,⟨_,_,_⟩,⟨⟨_,_,_,_⟩,_,_,_⟩⟩,⟨_,_,_,_,⟨_,_,_⟩,⟨⟨_,_,_,_⟩,_,_,_⟩⟩⟩,_,_,_⟩:=s;unfold vL at h;try dsimp only at h
  refine bf Tryz.func237 λctr hc=>?_;refine Wx [] 0 [] Wz

theorem KP n r (h:BL n=some r):Pf 396 [vi n] (vi r):=by
  unfold BL at h;refine bf Tryz.func396 λctr hc=>?_;refine Wx [] 0 [] Wz

theorem abf r' top bottom r (h:D6 r' top bottom=some r):Pf 257 [iD aj r',vi top,vi bottom] (iD aj r):=by
  obtain⟨_,_,_,_⟩:=r';unfold D6 at h;try dsimp only at h
  refine bf Tryz.func257 λctr hc=>?_;refine Wx [] 0 [] Wz

theorem Zv a0 r (h:I8 a0=some r):Pf 163 [aV aj a0] (vs r):=by
  unfold I8 at h;refine bf Tryz.func163 λctr hc=>?_;refine Wx [] 0 [] Wz

theorem GU k' text r (h:wV k' text=some r):Pf 157 [vi k',(.fn (.func (aj.fF text)) (aj.fK text) (aj.fC text))] ((.fn (.func (aj.fF r)) (aj.fK r) (aj.fC r))):=by
  unfold wV at h;refine bf Tryz.func157 λctr hc=>?_;refine Wx [] 0 [] Wz

theorem JW on r (h:vO on=some r):Pf 159 [vb on] ((.fn (.func (aj.fF r)) (aj.fK r) (aj.fC r))):=by
  unfold vO at h;refine bf Tryz.func159 λctr hc=>?_;refine Wx [] 0 [] Wz

theorem afK l' r (h:Ua l'=some r):Pf 412 [Li aj l'] (Ui aj r):=by
  unfold Ua at h;refine bf Tryz.func412 λctr hc=>?_;revert h;refine bT 2 [] 0 [] (Wq ?_);intro h;intros;refine bR h (ctr+2) [(4,2),(3,18)] [(8,1)] (λout u=>⟨[],[(8,Ri aj (ctr+1) (aj.len l') (u.t 8) out)],λ_=>ah out=(ah l')⟩) (λout uc ug ut ht hu hp h=>?_) (λf h=>?_)
  . try dsimp only at hp h
    refine Wx [] 0 [] Wz
  revert h;refine bT 1 [] 0 [] (Wq ?_);intro h;intros;refine Tr.block ?_;refine gy h (ctr+3) [(4,2),(5,16)] [(8,1)] (λ(v,aX) u1=>⟨[(11,vi v)],[(8,Ri aj (ctr+1) (aj.len l') (u1.t 8) aX)],λ_=>ah aX=(ah l')⟩) dN (λx dQ iN iG f ht hu hp h=>?_);obtain⟨_,_⟩:=x;try dsimp only at hp h
  refine Wx [] 0 [] Wz

theorem amg s r (h:afh s=some r):Pf 440 [.gX 1 1 (λ_ j=>(Iw aj s j)) 0 0] (Uz aj r):=by
  obtain⟨_⟩:=s;unfold afh at h;try dsimp only at h
  refine bf Tryz.func440 λctr hc=>?_;refine Wx [] 0 [] Wz

theorem Qo c' r (h:Gj c'=some r):Pf 423 [vi c'] (vb r):=by
  unfold Gj at h;refine bf Tryz.func423 λctr hc=>?_;refine Wx [] 0 [] Wz

theorem Zm l' seq r (h:Rk l' seq=some r):Pf 385 [Li aj l',Li aj seq] (Ui aj r):=by
  unfold Rk at h;refine bf Tryz.func385 λctr hc=>?_;revert h;refine bT 2 [] 0 [] (Wq ?_);intro h;intros;refine bR h (ctr+2) [(6,2),(3,15)] [(10,1)] (λout u=>⟨[],[(10,Ri aj (ctr+1) (aj.len seq) (u.t 10) out)],λ_=>ah out=(ah seq)⟩) (λout uc ug ut ht hu hp h=>?_) (λf h=>?_)
  . try dsimp only at hp h
    refine Wx [] 0 [] Wz
  revert h;refine bT 1 [] 0 [] (Wq ?_);intro h;intros;refine Tr.block ?_;refine gy h (ctr+3) [(6,2),(5,13)] [(10,1)] (λ(v,aX) u1=>⟨[(13,vi v)],[(10,Ri aj (ctr+1) (aj.len seq) (u1.t 10) aX)],λ_=>ah aX=(ah seq)⟩) dN (λx dQ iN iG f ht hu hp h=>?_);obtain⟨_,_⟩:=x;try dsimp only at hp h
  refine Wx [] 0 [] Wz

theorem ahh level r (h:Ot level=some r):Pf 424 [vi level] (vi r):=by
  unfold Ot at h;refine bf Tryz.func424 λctr hc=>?_;refine Wx [] 0 [] Wz

theorem awN t' r (h:w1 t'=some r) (lN:Int) (EG:ah t'.fl=lN) (pV:Bool):lK Tryz.prog 428 [.agg 2 (λj=>match j with|0=>.vec 0 0 1 0 lN|1=>vi t'.EY|_=>.junk)] [Ri aj 0 lN pV t'.fl] [Ri aj 0 lN pV r] (.jO 0 (λ_=>.junk)):=by
  obtain rfl:aj.len t'.fl=lN:=EG;obtain⟨q,_⟩:=t';unfold w1 at h;try dsimp only at h
  refine QX Tryz.func428 (tC Tryz.f428) λctr hc=>?_;revert h;refine bT 3 [] 1 [] (Wq ?_);intro h;intros;refine Tr.block ?_;refine gy h (ctr+3) [(2,3),(5,24)] [] (λ(BA,v) u=>Fa [(2,vi BA),(10,vi v)] []) dN (λx uc ug ut f ht hu hp h=>?_);obtain⟨_,v⟩:=x;try dsimp only at hp h
  revert h;refine bT 2 [] 1 [] (Wq ?_);intro h;intros;refine bR h (uc+1) [(2,3),(7,21)] [] (λ_ u1=>Fa [(2,vi (aj.get 0 q ((std Tryz.prog).add 0 v)))] []) (λx dQ iN iG ht hu hp h=>?_) (λf h=>?_)
  . refine Wx [] 1 [] Wz
  refine Tr.block ?_;revert h;refine bT 1 [] 1 [] (Wq ?_);intro h;intros;refine bR h (uc+2) [(15,7)] [] (λ_ u2=>Fa [] []) (λx lD qW pU ht hu hp h=>?_) (λf h=>?_)
  . refine Wx [] 1 [] Wz
  refine Wx [] 1 [] Wz

theorem ahi x' r (h:bits_Len64 x'=some r):Pf 403 [(.v (.int .u64 x'))] (vi r):=by
  unfold bits_Len64 at h;refine bf Tryz.func403 λctr hc=>?_;refine Wx [] 0 [] Wz

theorem Cj data a b cmp r (h:nQ data a b cmp=some r):Pf 452 [Am aj data,vi a,vi b,(.fn (.func (aj.fF cmp)) (aj.fK cmp) (aj.fC cmp))] (.jO 0 (λ_=>.junk)):=by
  unfold nQ at h;refine bf Tryz.func452 λctr hc=>?_;revert h;refine bT 1 [] 0 [] (Wq ?_);intro h;intros;refine Tr.block ?_;refine gy h (ctr+1) [(8,2),(2,41)] [] (λ_ u=>Fa [(8,vi ((std Tryz.prog).add a 1))] []) dN (λx uc ug ut f ht hu hp h=>?_);refine Wxp 1 [] 0 [] Wz

theorem afL c' r (h:Uc c'=some r):Pf 448 [vi c'] (vi r):=by
  unfold Uc at h;refine bf Tryz.func448 λctr hc=>?_;refine Wx [] 0 [] Wz

theorem adY a0 a1 a2 r (h:Y6 a0 a1 a2=some r):Pf 393 [dF aj a0,Li aj a1,vi a2] (vi r):=by cases h

theorem aed c' r (h:P5 c'=some r):Pf 347 [vi c'] (vb r):=by
  unfold P5 at h;refine bf Tryz.func347 λctr hc=>?_;revert h;refine bT 1 [] 0 [] (Wq ?_);intro h;intros;refine bR h (ctr+1) [(2,14)] [] (λ_ u=>Fa [] []) (λx uc ug ut ht hu hp h=>?_) (λf h=>?_)
  . refine Wx [] 0 [] Wz
  revert h;refine bT 1 [] 0 [] (Wq ?_);intro h;intros;refine Tr.block ?_;refine bR h (ctr+2) [(4,12)] [] (λv u1=>Fa [(4,vb v)] []) (λv dQ iN iG ht hu hp h=>?_) (λf h=>?_)
  . refine Wx [] 0 [] Wz
  revert h;refine bT 1 [] 0 [] (Wq ?_);intro h;intros;refine uY h rfl (λ_ h=>?_) (λ_ h=>?_)
  . refine Wx [] 0 [] Wz
  revert h;refine bT 1 [] 0 [] (Wq ?_);intro h;intros;refine uY h rfl (λ_ h=>?_) (λ_ h=>?_)
  . refine Wx [] 0 [] Wz
  refine Wx [] 0 [] Wz

theorem aee l' r (h:P7 l'=some r):Pf 342 [Li aj l'] (.jO 2 (λj=>match j with|0=>(Li aj r.1)|1=>(vb r.2)|_=>.junk)):=by
  unfold P7 at h;refine bf Tryz.func342 λctr hc=>?_;revert h;refine bT 2 [] 0 [] (Wq ?_);intro h;intros;refine bR h (ctr+2) [(5,1),(5,9)] [(10,1)] (λout u=>⟨[],[(10,Ri aj (ctr+1) (aj.len l') (u.t 10) out)],λ_=>ah out=(ah l')⟩) (λout uc ug ut ht hu hp h=>?_) (λf h=>?_)
  . try dsimp only at hp h
    refine bR h uc [(2,2),(2,2),(12,27)] [(10,1)] (λaX u1=>⟨[],[(10,Ri aj (ctr+1) (aj.len l') (u1.t 10) aX)],λ_=>ah aX=(ah l')⟩) (λaX dQ iN iG ht hu hp h=>?_) (λf h=>?_)
    . try dsimp only at hp h
      refine Wx [] 0 [] Wz
    revert h;refine bT 1 [] 0 [] (Wq ?_);intro h;intros;refine Tr.block ?_;refine gy h (uc+1) [(2,2),(2,2),(14,25)] [(10,1)] (λ(v,l9) u2=>⟨[(22,vi v)],[(10,Ri aj (ctr+1) (aj.len l') (u2.t 10) l9)],λ_=>ah l9=(ah l')⟩) dN (λx lD qW pU f ht hu hp h=>?_);obtain⟨_,_⟩:=x;try dsimp only at hp h
    refine Wx [] 0 [] Wz
  revert h;refine bT 1 [] 0 [] (Wq ?_);intro h;intros;refine Tr.block ?_;refine gy h (ctr+3) [(5,1),(7,7)] [(10,1)] (λ(v1,nT) u3=>⟨[(13,vi v1)],[(10,Ri aj (ctr+1) (aj.len l') (u3.t 10) nT)],λ_=>ah nT=(ah l')⟩) dN (λx oV BD zT f ht hu hp h=>?_);obtain⟨_,_⟩:=x;try dsimp only at hp h
  refine Wx [] 0 [] Wz

theorem ahj l' at' r (h:WE l' at'=some r):Pf 92 [Li aj l',vi at'] (vi r):=by
  unfold WE at h;refine bf Tryz.func92 λctr hc=>?_;refine Wx [] 0 [] Wz

theorem zL c' r (h:tH c'=some r):Pf 70 [gu aj c'] (Hg aj r):=by
  unfold tH at h;refine bf Tryz.func70 λctr hc=>?_;refine Wx [] 0 [] Wz

theorem WZ a b r (h:uN a b=some r):Pf 67 [(.sl 1 (aj.len a) false (λix jx=>(.sl 1 (aj.len (aj.get [] a ix)) false (λlW zS=>(vi (aj.get 0 (aj.get [] a ix) lW)))))),(.sl 1 (aj.len b) false (λix jx=>(.sl 1 (aj.len (aj.get [] b ix)) false (λlW zS=>(vi (aj.get 0 (aj.get [] b ix) lW))))))] (vb r):=by
  unfold uN at h;refine bf Tryz.func67 λctr hc=>?_;revert h;refine bT 2 [] 0 [] (Wq ?_);intro h;intros;refine bR h (ctr+2) [(4,3),(5,41)] [] (λ_ u=>Fa [] []) (λx uc ug ut ht hu hp h=>?_) (λf h=>?_)
  . refine Wx [] 0 [] Wz
  revert h;refine bT 1 [] 0 [] (Wq ?_);intro h;intros;refine Tr.block ?_;refine gy h (ctr+3) [(4,3),(5,41)] [] (λi u1=>Fa [(5,vi i)] []) dN (λi dQ iN iG f ht hu hp h=>?_);revert h;refine bT 1 [] 0 [] (Wq ?_);intro h;intros;refine bR h (dQ+1) [(4,1),(1,1),(11,35)] [] (λ_ u2=>Fa [] []) (λx lD qW pU ht hu hp h=>?_) (λf h=>?_)
  . refine Wx [] 0 [] Wz
  refine Tr.block ?_;revert h;refine bT 2 [] 0 [] (Wq ?_);intro h;intros;refine Tr.block ?_;refine gy h (dQ+3) [(4,1),(1,1),(22,24)] [] (λk' u3=>Fa [(6,vi k')] []) dN (λk' oV BD zT f ht hu hp h=>?_);refine Wx [] 0 [] Wz

theorem JX l' r (h:rD l'=some r):Pf 76 [lX aj l'] (vb r):=by
  unfold rD at h;refine bf Tryz.func76 λctr hc=>?_;revert h;refine bT 2 [] 0 [] (Wq ?_);intro h;intros;refine bR h (ctr+2) [(2,2),(3,13)] [] (λ_ u=>Fa [] []) (λx uc ug ut ht hu hp h=>?_) (λf h=>?_)
  . refine Wx [] 0 [] Wz
  revert h;refine bT 1 [] 0 [] (Wq ?_);intro h;intros;refine Tr.block ?_;refine gy h (ctr+3) [(2,2),(3,13)] [] (λi u1=>Fa [(3,vi i)] []) dN (λi dQ iN iG f ht hu hp h=>?_);refine Wx [] 0 [] Wz

end Go.Vx
