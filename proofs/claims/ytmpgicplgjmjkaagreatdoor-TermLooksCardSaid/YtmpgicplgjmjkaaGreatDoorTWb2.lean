/- Walks, by program (lift5.py): the code does what the lifted functions say. -/
import Derived.Test.YtmpgicplgjmjkaaGreatDoorTPi
import Derived.Test.YtmpgicplgjmjkaaGreatDoorTCh
set_option linter.all false
namespace Go.Vx
open Go.Proofs
set_option maxRecDepth 100000
set_option maxHeartbeats 8000000
set_option linter.unusedVariables false
set_option linter.unusedSimpArgs false
attribute [local irreducible] chk aA au aO oH

theorem DX s c' r (h:stringslite_IndexByte s c'=some r):Pf 127 [vs s,vu c'] (vi r):=by
  unfold stringslite_IndexByte at h;refine bf Tryz.func127 λctr hc=>?_;refine aZ ?_;refine Woe 7 0 (Nj s c') λv h1=>?_;refine Wk [] 0 [] Wz

theorem Qj c' r (h:Bw c'=some r):Pf 361 [vu c'] (vu r):=by
  unfold Bw at h;refine bf Tryz.func361 λctr hc=>?_;refine Wx [] 0 [] Wz

theorem adU s r (h:PN s=some r):Pf 22 [vs s] (vi r):=by
  unfold PN at h;refine bf Tryz.func22 λctr hc=>?_;refine Wx [] 0 [] Wz

theorem nU v least most r (h:jW v least most=some r):Pf 168 [vi v,vi least,vi most] (vi r):=by
  unfold jW at h;refine bf Tryz.func168 λctr hc=>?_;refine Wx [] 0 [] Wz

theorem aja w r (h:YU w=some r):Pf 291 [vi w] (vi r):=by
  unfold YU at h;refine bf Tryz.func291 λctr hc=>?_;refine Wx [] 0 [] Wz

theorem Zz p' r (h:Q8 p'=some r):Pf 356 [jN aj p'] (VT aj r):=by
  unfold Q8 at h;refine bf Tryz.func356 λctr hc=>?_;refine Wx [] 0 [] Wz

theorem Qb r (h:zR=some r):Pf 66 [] (w9 aj r):=by
  unfold zR at h;refine bf Tryz.func66 λctr hc=>?_;refine Wx [] 0 [] Wz

theorem SI bits r (h:zn bits=some r):Pf 178 [vi bits] (vb r):=by
  unfold zn at h;refine bf Tryz.func178 λctr hc=>?_;refine Wx [] 0 [] Wz

theorem akn c' r (h:Gv c'=some r):Pf 98 [vu c'] (.jO 3 (λj=>match j with|0=>(vi r.1)|1=>(vu r.2.1)|2=>(vu r.2.2)|_=>.junk)):=by
  unfold Gv at h;refine bf Tryz.func98 λctr hc=>?_;revert h;refine bT 2 [] 0 [] (Wq ?_);intro h;intros;refine bR h (ctr+2) [(2,1),(2,24)] [] (λn u=>Fa [(2,vi n)] []) (λn uc ug ut ht hu hp h=>?_) (λf h=>?_)
  . refine Wx [] 0 [] Wz
  refine Wx [] 0 [] Wz

theorem xR which r (h:mX which=some r):Pf 210 [vi which] (vb r):=by
  unfold mX at h;refine bf Tryz.func210 λctr hc=>?_;refine Wx [] 0 [] Wz

theorem abB l' i r (h:J8 l' i=some r):Pf 336 [Ao aj l',vi i] (vb r):=by
  unfold J8 at h;refine bf Tryz.func336 λctr hc=>?_;refine Wx [] 0 [] Wz

theorem ajb a r (h:YV a=some r):Pf 79 [adl aj a] ((.II 182 (ae6 aj r))):=by
  obtain⟨_,_,_,_,_,_,⟨_,_,_,_,_⟩⟩:=a;unfold YV at h;try dsimp only at h
  refine bf Tryz.func79 λctr hc=>?_;refine Wx [] 0 [] Wz

theorem aa2 s r (h:KA s=some r):Pf 101 [iJ aj s] (vb r):=by
  obtain⟨_,_,_,⟨_,_⟩,_,_⟩:=s;unfold KA at h;try dsimp only at h
  refine bf Tryz.func101 λctr hc=>?_;refine Wx [] 0 [] Wz

theorem SH r' r (h:Dr r'=some r):Pf 103 [vi r'] (Pn aj r):=by
  unfold Dr at h;refine bf Tryz.func103 λctr hc=>?_;refine Wx [] 0 [] Wz

theorem aiZ s r (h:Me s=some r):Pf 105 [iJ aj s] (Pn aj r):=by
  obtain⟨_,_,_,⟨_,_⟩,_,_⟩:=s;unfold Me at h;try dsimp only at h
  refine bf Tryz.func105 λctr hc=>?_;refine Wx [] 0 [] Wz

theorem ZA r' r (h:xJ r'=some r):Pf 212 [vi r'] (vi r):=by
  unfold xJ at h;refine bf Tryz.func212 λctr hc=>?_;refine Wx [] 0 [] Wz

theorem ahb r' r (h:Oa r'=some r):Pf 213 [vi r'] (vi r):=by
  unfold Oa at h;refine bf Tryz.func213 λctr hc=>?_;refine Wx [] 0 [] Wz

theorem Nw t' r' r (h:Eh t' r'=some r):Pf 214 [Em aj t',vi r'] (vi r):=by
  obtain⟨_⟩:=t';unfold Eh at h;try dsimp only at h
  refine bf Tryz.func214 λctr hc=>?_;revert h;refine bT 1 [] 0 [] (Wq ?_);intro h;intros;refine bR h (ctr+1) [(4,1),(1,21)] [] (λ_ u=>Fa [] []) (λx uc ug ut ht hu hp h=>?_) (λf h=>?_)
  . refine Wx [] 0 [] Wz
  revert h;refine bT 1 [] 0 [] (Wq ?_);intro h;intros;refine Tr.block ?_;refine gy h (ctr+2) [(4,1),(1,1),(3,17)] [(6,1)] (λv u1=>Fa [(10,vi v)] []) dN (λv dQ iN iG f ht hu hp h=>?_);refine Wx [] 0 [] Wz

theorem aa5 r' cap0 r (h:Ee r' cap0=some r):Pf 325 [gH aj r',.gX 1 1 (λ_ j=>(vb cap0)) 0 0] (gH aj r):=by
  unfold Ee at h;refine bf Tryz.func325 λctr hc=>?_;refine Wx [] 0 [] Wz

theorem afC r' from' to r (h:T9 r' from' to=some r):Pf 367 [gH aj r',vi from',vi to] (.jO 2 (λj=>match j with|0=>(vi r.1)|1=>(vi r.2)|_=>.junk)):=by
  obtain⟨_,_,_,_⟩:=r';unfold T9 at h;try dsimp only at h
  refine bf Tryz.func367 λctr hc=>?_;refine Wx [] 0 [] Wz

theorem ko s r (h:j4 s=some r):Pf 220 [aS aj s] (jN aj r):=by
  unfold j4 at h;refine bf Tryz.func220 λctr hc=>?_;refine Wx [] 0 [] Wz

theorem ahc x' cap0 r (h:Ws x' cap0=some r):Pf 319 [vi x',.gX 1 1 (λ_ j=>(vi cap0)) 0 0] (vb r):=by
  unfold Ws at h;refine bf Tryz.func319 λctr hc=>?_;refine Wx [] 0 [] Wz

theorem gY f' r (h:iA f'=some r):Pf 113 [(.fn (.func (aj.fF f')) (aj.fK f') (aj.fC f'))] ((.fn (.func (aj.fF r)) (aj.fK r) (aj.fC r))):=by
  unfold iA at h;refine bf Tryz.func113 λctr hc=>?_;refine Wx [] 0 [] Wz

theorem acw s u u1 r (h:Nn s u u1=some r):Pf 112 [aV aj s,dF aj u,gG aj u1] (aV aj r):=by
  unfold Nn at h;refine bf Tryz.func112 λctr hc=>?_;refine Wx [] 0 [] Wz

theorem ag5 l' r (h:H8 l'=some r):Pf 333 [(.sl 1 (aj.len l') false (λix jx=>(.sl 1 (aj.len (aj.get [] l' ix)) false (λlW zS=>(vi (aj.get 0 (aj.get [] l' ix) lW))))))] (Ui aj r):=by
  unfold H8 at h;refine bf Tryz.func333 λctr hc=>?_;revert h;refine bT 2 [] 0 [] (Wq ?_);intro h;intros;refine bR h (ctr+2) [(3,1),(1,23)] [(26,1)] (λfirsts u=>Fa [(3,.vec 26 (u.g 26) 1 0 (aj.len firsts))] [(26,Ri aj (u.g 26) (aj.len firsts) (u.t 26) firsts)]) (λfirsts uc ug ut ht hu hp h=>?_) (λf h=>?_)
  . refine Wx [] 0 [] Wz
  revert h;refine bT 1 [] 0 [] (Wq ?_);intro h;intros;refine Tr.block ?_;refine gy h (ctr+3) [(3,1),(1,2),(4,1),(1,15)] [(26,1)] (λ(v,EB) u1=>Fa [(3,.vec 26 (u1.g 26) 1 0 (aj.len EB)),(11,.sl 1 (aj.len (aj.sub l' 0 ((std Tryz.prog).wT (aj.len l') 4))) false (λix jx=>(.sl 1 (aj.len (aj.get [] (aj.sub l' 0 ((std Tryz.prog).wT (aj.len l') 4)) ix)) false (λlW zS=>(vi (aj.get 0 (aj.get [] (aj.sub l' 0 ((std Tryz.prog).wT (aj.len l') 4)) ix) lW)))))),(13,vi v)] [(26,Ri aj (u1.g 26) (aj.len EB) (u1.t 26) EB)]) dN (λx dQ iN iG f ht hu hp h=>?_);obtain⟨_,_⟩:=x;try dsimp only at hp h
  refine Wx [25] 0 [] Wz

theorem AJ s t' r (h:oM s t'=some r):Pf 261 [aV aj s,vs t'] (aV aj r):=by
  obtain⟨⟨⟨q⟩,⟨q1,q2,q3,q4,⟨q5,q6,q7⟩,⟨⟨q8,q9,BG,BH⟩,BI,BJ,EX⟩⟩,⟨zG,q16,yO,wO⟩,⟨JO,JQ⟩,⟨Df,q22⟩,Hr,q24⟩,⟨⟨Hz⟩,⟨JR,NM,Rn,Ro,⟨NJ,Rq,q32⟩,⟨⟨Rt,Rw,Rx,Ry⟩,Rz,RA,RB⟩⟩,⟨NN,NP,NQ,NR⟩,⟨RD,RF⟩,⟨RG,RH⟩,RI,RJ⟩,RL,⟨U7⟩,⟨⟨RN,RO,RP,RQ,⟨RU,RV,RX⟩,⟨⟨RY,RZ,R4,R5⟩,R6,R7,R8⟩⟩,⟨NS,R9,Sd,Si,⟨Sj,Sl,Sm⟩,⟨⟨Sn,Sr,Sv,Sz⟩,SA,SB,SC⟩⟩⟩,SE,SF,NT⟩:=s;unfold oM at h;try dsimp only at h
  refine bf Tryz.func261 λctr hc=>?_;refine Wxc 4 [] 0 [] h ctr [(2,1),(1,21)] [(2,1),(1,1),(15,1),(3,1)] (λout u=>Fa [(2,.fq 2 (u.g 2) 0),(4,.fq 4 (u.g 4) 0),(5,.vec 24 (u.g 24) 1 0 (aj.len out))] [(2,.box (u.g 2) (lX aj q::vi q1::vi q2::vb q3::vb q4::vi q5::vi q6::vi q7::vu q8::vu q9::vu BG::vu BH::vi BI::vi BJ::vi EX::vi zG::vi q16::vi yO::vi wO::Li aj JO::vi JQ::lX aj Df::vi q22::vi Hr::vb q24::lX aj Hz::vi JR::vi NM::vb Rn::vb Ro::vi NJ::vi Rq::vi q32::vu Rt::vu Rw::vu Rx::vu Ry::vi Rz::vi RA::vi RB::vi NN::vi NP::vi NQ::vi NR::Li aj RD::vi RF::lX aj RG::vi RH::vi RI::vb RJ::vb RL::vi U7::vi RN::vi RO::vb RP::vb RQ::vi RU::vi RV::vi RX::vu RY::vu RZ::vu R4::vu R5::vi R6::vi R7::vi R8::vi NS::vi R9::vb Sd::vb Si::vi Sj::vi Sl::vi Sm::vu Sn::vu Sr::vu Sv::vu Sz::vi SA::vi SB::vi SC::Lu aj SE::vs SF::vi NT :: [])),(4,.box (u.g 4) (.dX::vi 0::vi 0::vb false::vb false::vi 0::vi 0::vi 0::vu 0::vu 0::vu 0::vu 0::vi 0::vi 0::vi 0::vi 0::vi 0::vi 0::vi 0 :: .dX::vi 0 :: .dX::vi 0::vi 0::vb false :: .dX::vi 0::vi 0::vb false::vb false::vi 0::vi 0::vi 0::vu 0::vu 0::vu 0::vu 0::vi 0::vi 0::vi 0::vi 0::vi 0::vi 0::vi 0 :: .dX::vi 0 :: .dX::vi 0::vi 0::vb false::vb false::vi 0::vi 0::vi 0::vb false::vb false::vi 0::vi 0::vi 0::vu 0::vu 0::vu 0::vu 0::vi 0::vi 0::vi 0::vi 0::vi 0::vb false::vb false::vi 0::vi 0::vi 0::vu 0::vu 0::vu 0::vu 0::vi 0::vi 0::vi 0 :: .dX::vs ByteArray.empty::vi 0 :: [])),(24,Ru aj (u.g 24) (aj.len out) (u.t 24) out)]) (λout uc ug ut ht hu hp h=>?_) (λf h=>Wz);refine Wx [] 0 [] Wz

theorem U4 a0 r (h:DR a0=some r):Pf 158 [aV aj a0] (vs r):=by
  unfold DR at h;refine bf Tryz.func158 λctr hc=>?_;refine Wx [] 0 [] Wz

theorem JV dU mark r (h:vP dU mark=some r):Pf 162 [vb dU,vs mark] ((.fn (.func (aj.fF r)) (aj.fK r) (aj.fC r))):=by
  unfold vP at h;refine bf Tryz.func162 λctr hc=>?_;refine Wx [] 0 [] Wz

theorem SG r' r (h:I9 r'=some r):Pf 283 [gH aj r'] (.jO 2 (λj=>match j with|0=>(Li aj r.1)|1=>(Li aj r.2)|_=>.junk)):=by
  obtain⟨_,_,_,_⟩:=r';unfold I9 at h;try dsimp only at h
  refine bf Tryz.func283 λctr hc=>?_;revert h;refine bT 2 [] 0 [] (Wq ?_);intro h;intros;refine bR h (ctr+2) [(4,2),(1,26)] [(26,1),(4,1)] (λ(out,widths) u=>Fa [(4,.vec 26 (u.g 26) 1 0 (aj.len out)),(5,.vec 31 (u.g 31) 1 0 (aj.len widths))] [(26,Ri aj (u.g 26) (aj.len out) (u.t 26) out),(31,Ri aj (u.g 31) (aj.len widths) (u.t 31) widths)]) (λx uc ug ut ht hu hp h=>?_) (λf h=>?_)
  . obtain⟨_,_⟩:=x;try dsimp only at hp h
    refine Wx [] 0 [] Wz
  revert h;refine bT 1 [] 0 [] (Wq ?_);intro h;intros;refine Tr.block ?_;refine gy h (ctr+3) [(4,2),(1,2),(3,21)] [(7,1),(18,1),(4,1)] (λ(v,aX,BU) u1=>Fa [(4,.vec 26 (u1.g 26) 1 0 (aj.len aX)),(5,.vec 31 (u1.g 31) 1 0 (aj.len BU)),(12,vi v)] [(26,Ri aj (u1.g 26) (aj.len aX) (u1.t 26) aX),(31,Ri aj (u1.g 31) (aj.len BU) (u1.t 31) BU)]) dN (λx dQ iN iG f ht hu hp h=>?_);obtain⟨_,_,_⟩:=x;try dsimp only at hp h
  refine Wx [25,30] 0 [] Wz

theorem KO l' r (h:FU l'=some r):Pf 382 [Li aj l'] (Ui aj r):=by
  unfold FU at h;refine bf Tryz.func382 λctr hc=>?_;revert h;refine bT 3 [] 0 [] (Wq ?_);intro h;intros;refine bR h (ctr+3) [(5,2),(3,39)] [(9,1)] (λout u=>⟨[],[(9,Ri aj (ctr+1) (aj.len l') (u.t 9) out)],λ_=>ah out=(ah l')⟩) (λout uc ug ut ht hu hp h=>?_) (λf h=>?_)
  . try dsimp only at hp h
    refine Wx [] 0 [] Wz
  revert h;refine bT 1 [] 0 [] (Wq ?_);intro h;intros;refine Tr.block ?_;refine gy h (ctr+4) [(5,2),(5,37)] [(9,1)] (λ(v,aX) u1=>⟨[(12,vi v)],[(9,Ri aj (ctr+1) (aj.len l') (u1.t 9) aX)],λ_=>ah aX=(ah l')⟩) dN (λx dQ iN iG f ht hu hp h=>?_);obtain⟨v,aX⟩:=x;try dsimp only at hp h
  revert h;refine bT 2 [] 0 [] (Wq ?_);intro h;intros;refine bR h (dQ+1) [(5,2),(7,34)] [(9,1)] (λ_ u2=>Fa [] [(9,Ri aj (ctr+1) (aj.len l') (u2.t 9) (aj.set aX v (-1)))]) (λx lD qW pU ht hu hp h=>?_) (λf h=>?_)
  . refine Wx [] 0 [] Wz
  refine Tr.block ?_;revert h;refine bT 3 [] 0 [] (Wq ?_);intro h;intros;refine Tr.block ?_;refine bR h (dQ+4) [(21,4)] [(9,1)] (λv1 u3=>Fa [(21,vb v1)] [(9,Ri aj (ctr+1) (aj.len l') (u3.t 9) (aj.set aX v (-1)))]) (λv1 oV BD zT ht hu hp h=>?_) (λf h=>?_)
  . refine Wx [] 0 [] Wz
  refine Wx [] 0 [] Wz

theorem amd s x' r (h:afg s x'=some r)   : lK Tryz.prog 414 [.fq 0 0 0,Uz aj x'] [.box 0 [.vec 1 0 3 0 (aj.len s.fl)],pK aj 0 (aj.len s.fl) false s.fl] [.box 0 [.vec 1 1 3 0 (aj.len r.fl)],pK aj 1 (aj.len r.fl) false r.fl] (.jO 0 (λ_=>.junk)):=by
  obtain⟨_⟩:=s;unfold afg at h;try dsimp only at h
  refine QX Tryz.func414 (tC Tryz.f414) λctr hc=>?_;refine Wx [10] 2 [] Wz

theorem X0 l' r' r (h:Oq l' r'=some r):Pf 421 [Li aj l',LA aj r'] (vb r):=by
  obtain⟨_,_,_⟩:=r';unfold Oq at h;try dsimp only at h
  refine bf Tryz.func421 λctr hc=>?_;refine Wx [] 0 [] Wz

theorem awG t' r (h:w7 t'=some r) (lN:Int) (EG:ah t'.fl=lN) (pV:Bool):lK Tryz.prog 434 [.agg 2 (λj=>match j with|0=>.vec 0 0 1 0 lN|1=>vi t'.EY|_=>.junk)] [Ri aj 0 lN pV t'.fl] [Ri aj 0 lN pV r] (.jO 0 (λ_=>.junk)):=by
  obtain rfl:aj.len t'.fl=lN:=EG;obtain⟨_,_⟩:=t';unfold w7 at h;try dsimp only at h
  refine QX Tryz.func434 (tC Tryz.f434) λctr hc=>?_;revert h;refine bT 3 [] 1 [] (Wq ?_);intro h;intros;refine Tr.block ?_;refine gy h (ctr+3) [(2,3),(5,19)] [] (λ(Rl,v) u=>Fa [(2,vi Rl),(10,vi v)] []) dN (λx uc ug ut f ht hu hp h=>?_);obtain⟨_,_⟩:=x;try dsimp only at hp h
  refine Wx [] 1 [] Wz

theorem SK c' r (h:Jc c'=some r):Pf 447 [vi c'] (vb r):=by
  unfold Jc at h;refine bf Tryz.func447 λctr hc=>?_;revert h;refine bT 1 [] 0 [] (Wq ?_);intro h;intros;refine bR h (ctr+1) [(2,11)] [] (λ_ u=>Fa [] []) (λx uc ug ut ht hu hp h=>?_) (λf h=>?_)
  . refine Wx [] 0 [] Wz
  revert h;refine bT 1 [] 0 [] (Wq ?_);intro h;intros;refine Tr.block ?_;refine bR h (ctr+2) [(4,9)] [] (λv u1=>Fa [(4,vb v)] []) (λv dQ iN iG ht hu hp h=>?_) (λf h=>?_)
  . refine Wx [] 0 [] Wz
  refine Wx [] 0 [] Wz

theorem acj c' level r (h:Np c' level=some r):Pf 389 [vi c',vi level] (vi r):=by
  unfold Np at h;refine bf Tryz.func389 λctr hc=>?_;refine Wx [] 0 [] Wz

theorem WJ a b r (h:uM a b=some r):Pf 173 [IC aj a,IC aj b] (vb r):=by
  obtain⟨_,_⟩:=a;obtain⟨_,_⟩:=b;unfold uM at h;try dsimp only at h
  refine bf Tryz.func173 λctr hc=>?_;revert h;refine bT 2 [] 0 [] (Wq ?_);intro h;intros;refine bR h (ctr+2) [(4,2),(14,18)] [] (λ_ u=>Fa [] []) (λx uc ug ut ht hu hp h=>?_) (λf h=>?_)
  . refine Wx [] 0 [] Wz
  revert h;refine bT 1 [] 0 [] (Wq ?_);intro h;intros;refine Tr.block ?_;refine gy h (ctr+3) [(4,2),(14,18)] [] (λi u1=>Fa [(5,vi i)] []) dN (λi dQ iN iG f ht hu hp h=>?_);refine Wx [] 0 [] Wz

theorem HV l' r (h:pG l'=some r):Pf 37 [lX aj l'] (vb r):=by
  unfold pG at h;refine bf Tryz.func37 λctr hc=>?_;revert h;refine bT 2 [] 0 [] (Wq ?_);intro h;intros;refine bR h (ctr+2) [(2,2),(3,13)] [] (λ_ u=>Fa [] []) (λx uc ug ut ht hu hp h=>?_) (λf h=>?_)
  . refine Wx [] 0 [] Wz
  revert h;refine bT 1 [] 0 [] (Wq ?_);intro h;intros;refine Tr.block ?_;refine gy h (ctr+3) [(2,2),(3,13)] [] (λi u1=>Fa [(3,vi i)] []) dN (λi dQ iN iG f ht hu hp h=>?_);refine Wx [] 0 [] Wz

theorem Yg l' r (h:vR l'=some r):Pf 14 [(.sl 1 (aj.len l') false (λix jx=>(.sl 1 (aj.len (aj.get [] l' ix)) false (λlW zS=>(vi (aj.get 0 (aj.get [] l' ix) lW))))))] (vb r):=by
  unfold vR at h;refine bf Tryz.func14 λctr hc=>?_;revert h;refine bT 2 [] 0 [] (Wq ?_);intro h;intros;refine bR h (ctr+2) [(2,2),(3,12)] [] (λ_ u=>Fa [] []) (λx uc ug ut ht hu hp h=>?_) (λf h=>?_)
  . refine Wx [] 0 [] Wz
  revert h;refine bT 1 [] 0 [] (Wq ?_);intro h;intros;refine Tr.block ?_;refine gy h (ctr+3) [(2,2),(3,12)] [] (λi u1=>Fa [(3,vi i)] []) dN (λi dQ iN iG f ht hu hp h=>?_);refine Wx [] 0 [] Wz

end Go.Vx
