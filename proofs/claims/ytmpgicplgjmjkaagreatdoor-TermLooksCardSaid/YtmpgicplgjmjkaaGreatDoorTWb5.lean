/- Walks, by program (lift5.py): the code does what the lifted functions say. -/
import Derived.Test.YtmpgicplgjmjkaaGreatDoorTWb2
import Derived.Test.YtmpgicplgjmjkaaGreatDoorTWb3
import Derived.Test.YtmpgicplgjmjkaaGreatDoorTWb4
set_option linter.all false
namespace Go.Vx
open Go.Proofs
set_option maxRecDepth 100000
set_option maxHeartbeats 8000000
set_option linter.unusedVariables false
set_option linter.unusedSimpArgs false
attribute [local irreducible] chk aA au aO oH

theorem UO c' r (h:yw c'=some r):Pf 171 [vi c'] (vD aj r):=by
  unfold yw at h;refine bf Tryz.func171 λctr hc=>?_;refine aZ ?_;refine Wo 4 0 (MS c' 200) λv h1=>?_;refine Wk [] 0 [] Wz

theorem FW p' r (h:Ad p'=some r):Pf 181 [jN aj p'] (vb r):=by
  obtain⟨q,q1,_⟩:=p';unfold Ad at h;try dsimp only at h
  refine bf Tryz.func181 λctr hc=>?_;refine aZ ?_;refine Wo 5 0 (SL q) λv h1=>?_;refine uh 9 0 v (SL q1) false λv1 h2=>?_;refine Wk [] 0 [] Wz

theorem xS s r (h:qb s=some r):Pf 106 [iT aj s] (vb r):=by
  obtain⟨⟨q,q1,q2,q3⟩,q4,q5,_⟩:=s;unfold qb at h;try dsimp only at h
  refine bf Tryz.func106 λctr hc=>?_;revert h;refine bT 1 [] 0 [] (Wq ?_);intro h;intros;refine bR h (ctr+1) [(2,1),(1,10)] [] (λ_ u=>Fa [] []) (λx uc ug ut ht hu hp h=>?_) (λf h=>?_)
  . refine aZ ?_;refine Wo 16 0 (xR q4) λv h9=>?_;refine uh 20 0 v (xR q5) false λv1 h10=>?_;refine om 29 0 h (sK v (sK v1 sB)) (MV _) λv2 h11=>?_;refine Wk [] 0 [] Wz
  revert h;refine bT 1 [] 0 [] (Wq ?_);intro h;intros;refine Tr.block ?_;refine Tr.rounds 5 ?_;refine kX h (ctr+2) [(2,1),(1,1),(2,7)] [] (λ_ u1=>Fa [(7,vi 1)] []) (λx dQ iN iG ht hu hp h=>?_) (λf h=>?_)
  . refine kX h dQ [(2,1),(1,1),(2,7)] [] (λ_ u2=>Fa [(7,vi 2)] []) (λx lD qW pU ht hu hp h=>?_) (λf h=>?_)
    . refine kX h lD [(2,1),(1,1),(2,7)] [] (λ_ u3=>Fa [(7,vi 3)] []) (λx oV BD zT ht hu hp h=>?_) (λf h=>?_)
      . refine kX h oV [(2,1),(1,1),(2,7)] [] (λ_ u4=>Fa [(7,vi 4)] []) (λx yN MQ JN ht hu hp h=>?_) (λf h=>?_)
        . refine Wx [] 0 [] Wz
        refine aZ ?_;refine Wo 11 0 (wD q3) λv3 h20=>?_;refine Wk [] 0 [] Wz
      refine aZ ?_;refine Wo 11 0 (wD q2) λv4 h22=>?_;refine Wk [] 0 [] Wz
    refine aZ ?_;refine Wo 11 0 (wD q1) λv5 h24=>?_;refine Wk [] 0 [] Wz
  refine aZ ?_;refine Wo 11 0 (wD q) λv6 h26=>?_;refine Wk [] 0 [] Wz

theorem pO c' r' r (h:nI c' r'=some r):Pf 75 [gu aj c',iD aj r'] (vb r):=by
  obtain⟨_,_,_,_,⟨q4,q5,q6⟩,⟨⟨q7,q8,q9,BG⟩,BH,BI,BJ⟩⟩:=c';obtain⟨_,_,_,_⟩:=r';unfold nI at h;try dsimp only at h
  refine bf Tryz.func75 λctr hc=>?_;refine aZ ?_;refine Wi 6 0 h sB (acC _) λv h1=>?_;refine om 48 0 h (sK v (sF (sC sB))) (Qd _ _) λv1 h3=>?_;refine Wo 54 0 (FW ⟨q4,q5,q6⟩) λv2 h4=>?_;refine uh 58 0 v2 (xS ⟨⟨q7,q8,q9,BG⟩,BH,BI,BJ⟩) false λv3 h5=>?_;refine Wk [] 0 [] Wz

theorem abC c' r (h:J7 c'=some r):Pf 314 [VT aj c'] (vb r):=by
  obtain⟨_,⟨_,_⟩,_,⟨_,_,_⟩⟩:=c';unfold J7 at h;try dsimp only at h
  refine bf Tryz.func314 λctr hc=>?_;revert h;refine bT 1 [] 0 [] (Wq ?_);intro h;intros;refine bR h (ctr+1) [(2,1),(1,22)] [] (λ_ u=>Fa [] []) (λx uc ug ut ht hu hp h=>?_) (λf h=>?_)
  . refine aZ ?_;refine om 49 0 h sB (FW _) λv h3=>?_;refine Wk [] 0 [] Wz
  revert h;refine bT 1 [] 0 [] (Wq ?_);intro h;intros;refine Tr.block ?_;refine Tr.rounds 3 ?_;refine kX h (ctr+2) [(2,1),(1,1),(2,19)] [] (λ_ u1=>Fa [(7,vi 1)] []) (λx dQ iN iG ht hu hp h=>?_) (λf h=>?_)
  . refine kX h dQ [(2,1),(1,1),(2,19)] [] (λ_ u2=>Fa [(7,vi 2)] []) (λx lD qW pU ht hu hp h=>?_) (λf h=>?_)
    . refine Wx [] 0 [] Wz
    refine Wx [] 0 [] Wz
  refine Wx [] 0 [] Wz

theorem afv r' r (h:Fz r'=some r):Pf 100 [vi r'] (.jO 2 (λj=>match j with|0=>(iJ aj r.1)|1=>(tu aj r.2)|_=>.junk)):=by
  unfold Fz at h;refine bf Tryz.func100 λctr hc=>?_;refine aZ ?_;refine Wo 28 1 (Qc r') λv h1=>?_;refine Wk [] 0 [] Wz

theorem Nz final r' r (h:Af final r'=some r):Pf 108 [vu final,vi r'] (vi r):=by
  unfold Af at h;refine bf Tryz.func108 λctr hc=>?_;refine aZ ?_;refine Wo 9 0 (ZA r') λv h1=>?_;refine Wo 13 0 (ahb r') λv1 h2=>?_;refine Wk [] 0 [] Wz

theorem afE s r' r (h:FB s r'=some r):Pf 52 [iT aj s,vi r'] (.jO 2 (λj=>match j with|0=>(iT aj r.1)|1=>(vi r.2)|_=>.junk)):=by
  obtain⟨⟨_,_,_,_⟩,_,_,_⟩:=s;unfold FB at h;try dsimp only at h
  refine bf Tryz.func52 λctr hc=>?_;refine aZ ?_;refine Wi 8 0 h sB (xS _) λv h1=>?_;refine Wo 10 0 (zK) λv1 h2=>?_;refine Wi 31 0 h (sK v (sF (sT (sC sB)))) (Nz _ _) λv2 h4=>?_;refine Wi 45 0 h (sK v (sF (sF (sT (sC sB))))) (Nz _ _) λv3 h6=>?_;refine Wi 68 0 h (sK v (sF (sF (sF (sC (sT (sC (sC sB)))))))) (Nz _ _) λv4 h10=>?_;refine Wk [28,42,57,64] 0 [] Wz

theorem Gq r' l' mH tF r (h:xI r' l' mH tF=some r) (Cb:Int) (aqY:ah l'=Cb) (pV:Bool):lK Tryz.prog 293 [gH aj r',.vec 0 0 7 mH tF] [jQ aj 0 Cb pV l'] [.dead 1] (gH aj r):=by
  unfold xI at h;refine QX Tryz.func293 (tC Tryz.f293) λctr hc=>?_;replace h:=jC h;obtain⟨h31,h⟩:=h;revert h;refine bT 1 [] 1 [] (Wq ?_);intro h;intros;refine bR h (ctr+1) [(5,19)] [(0,1)] (λiE u=>⟨[],[(0,jQ aj (0) Cb (pV) iE)],λ_=>ah iE=Cb⟩) (λiE uc ug ut ht hu hp h=>?_) (λf h=>?_)
  . try dsimp only at hp h
    refine Wx [] 1 [(7,[.freeze (.slot 1)])] Wz
  revert h;refine bT 1 [] 1 [] (Wq ?_);intro h;intros;refine Tr.block ?_;refine gy h (ctr+2) [(5,1),(2,16)] [(0,1)] (λ(v,l'2) u1=>⟨[(8,vi v)],[(0,jQ aj (0) Cb (pV) l'2)],λ_=>ah l'2=Cb⟩) dN (λx dQ iN iG f ht hu hp h=>?_);obtain⟨_,_⟩:=x;try dsimp only at hp h
  refine aZ ?_;refine Wi 14 4 h (sT sB) (abB _ _) λv1 h25=>?_;refine Wi 22 0 h (sT (sK v1 (sT (sC sB)))) (Zz _) λv2 h27=>?_;refine Wk [] 1 [] Wz

theorem Jh l' k' usual least most r (h:vZ l' k' usual least most=some r):Pf 241 [(.sl 1 (aj.len l') false (λix jx=>(.sl 1 (aj.len (aj.get [] l' ix)) false (λlW zS=>(vi (aj.get 0 (aj.get [] l' ix) lW)))))),vi k',vi usual,vi least,vi most] (vi r):=by
  unfold vZ at h;refine bf Tryz.func241 λctr hc=>?_;refine aZ ?_;refine Wo 15 0 (Gm l' k' usual) λv h1=>?_;refine Wk [] 0 [] Wz

theorem Dh a r (h:sU a=some r):Pf 224 [gG aj a] (vi r):=by
  unfold sU at h;refine bf Tryz.func224 λctr hc=>?_;refine aZ ?_;refine Wi 5 0 h sB (Jh _ _ _ _ _) λv h1=>?_;refine Wk [] 0 [] Wz

theorem E9 v by' least most r (h:rF v by' least most=some r):Pf 225 [vi v,vi by',vi least,vi most] (vi r):=by
  unfold rF at h;refine bf Tryz.func225 λctr hc=>?_;refine aZ ?_;refine Wi 11 0 h sB (nU _ _ _) λv1 h1=>?_;refine Wo 15 0 (nU (v+v1) least most) λv2 h3=>?_;refine Wk [] 0 [] Wz

theorem adX s which right r (h:Dy s which right=some r):Pf 231 [iT aj s,vi which,vb right] (iT aj r):=by
  unfold Dy at h;refine bf Tryz.func231 λctr hc=>?_;refine aZ ?_;refine Wo 8 0 (xS s) λv h1=>?_;refine Wo 10 0 (zK) λv1 h2=>?_;refine Wo 12 0 (xR which) λv2 h3=>?_;refine Wk [] 0 [] Wz

theorem acu s which r (h:Bo s which=some r):Pf 235 [iT aj s,vi which] (iT aj r):=by
  unfold Bo at h;refine bf Tryz.func235 λctr hc=>?_;refine aZ ?_;refine Wo 6 0 (xS s) λv h1=>?_;refine Wo 8 0 (zK) λv1 h2=>?_;refine Wo 10 0 (MV which) λv2 h3=>?_;refine Wk [] 0 [] Wz

theorem afq s which final r (h:FC s which final=some r):Pf 128 [iT aj s,vi which,vu final] (iT aj r):=by
  obtain⟨⟨_,_,_,_⟩,_,_,_⟩:=s;unfold FC at h;try dsimp only at h
  refine bf Tryz.func128 λctr hc=>?_;refine aZ ?_;refine Wi 8 0 h sB (xS _) λv h1=>?_;refine Wo 10 0 (zK) λv1 h2=>?_;refine Wo 12 0 (xR which) λv2 h3=>?_;refine uh 15 0 v2 (wD final) false λv3 h4=>?_;refine Wk [20] 0 [] Wz

theorem amh r' g' b r (h:Un r' g' b=some r):Pf 369 [vi r',vi g',vi b] (vi r):=by
  unfold Un at h;refine bf Tryz.func369 λctr hc=>?_;refine aZ ?_;refine Wo 8 0 (KP r') λv h1=>?_;refine Wo 12 0 (KP g') λv1 h4=>?_;refine Wo 16 0 (KP b) λv2 h7=>?_;refine Wk [] 0 [] Wz

theorem XW l' r (h:D7 l'=some r):Pf 331 [Li aj l'] (.jO 2 (λj=>match j with|0=>(vi r.1)|1=>(vi r.2)|_=>.junk)):=by
  unfold D7 at h;refine bf Tryz.func331 λctr hc=>?_;refine aZ ?_;refine om 18 0 h (sC (sC sB)) (Gp _) λv h3=>?_;refine om 38 0 h (sC (sC (sK v (sF (sC (sC sB)))))) (Gp _) λv1 h8=>?_;refine om 44 0 h (sC (sC (sK v (sF (sC (sC (sK v1 (sC sB)))))))) (Gp _) λv2 h10=>?_;refine om 50 0 h (sC (sC (sK v (sF (sC (sC (sK v1 (sC (sK v2 (sC sB)))))))))) (Gp _) λv3 h12=>?_;refine Wo 61 0 (amh (aB 0 l' 1) (aB 0 l' 2) (aB 0 l' 3)) λv4 h16=>?_;refine Wk [] 0 [] Wz

theorem acB r (h:Bg=some r):Pf 61 [] ((Br aj r)):=by
  unfold Bg at h;refine bf Tryz.func61 λctr hc=>?_;refine aZ ?_;refine Wo 1 0 (JW true) λv h1=>?_;refine Wo 3 0 (JW false) λv1 h2=>?_;refine Wo 5 6 (tK (FV.nil 142)) λv2 h3=>?_;refine Wo 7 6 (tK (FV.nil 143)) λv3 h4=>?_;refine Wo 9 6 (GU 6 (FV.nil 160)) λv4 h5=>?_;refine Wo 11 0 (JV true (⟨#[63]⟩:ByteArray)) λv5 h6=>?_;refine Wo 13 0 (JV false (⟨#[]⟩:ByteArray)) λv6 h7=>?_;refine Wo 15 6 (GU 0 (FV.nil 163)) λv7 h8=>?_;refine Wk [19] 0 [] Wz

theorem U0 l' r (h:LJ l'=some r):Pf 287 [lX aj l'] (Ui aj r):=by
  unfold LJ at h;refine bf Tryz.func287 λctr hc=>?_;revert h;refine bT 2 [] 0 [] (Wq ?_);intro h;intros;refine bR h (ctr+2) [(3,1),(1,18)] [(21,1)] (λout u=>Fa [(3,.vec 21 (u.g 21) 1 0 (aj.len out))] [(21,Ri aj (u.g 21) (aj.len out) (u.t 21) out)]) (λout uc ug ut ht hu hp h=>?_) (λf h=>?_)
  . refine Wx [] 0 [] Wz
  revert h;refine bT 1 [] 0 [] (Wq ?_);intro h;intros;refine Tr.block ?_;refine gy h (ctr+3) [(3,1),(1,3),(2,13)] [(5,1),(15,1)] (λ(v,aX) u1=>Fa [(3,.vec 21 (u1.g 21) 1 0 (aj.len aX)),(10,vi v)] [(21,Ri aj (u1.g 21) (aj.len aX) (u1.t 21) aX)]) dN (λx dQ iN iG f ht hu hp h=>?_);obtain⟨_,_⟩:=x;try dsimp only at hp h
  refine aZ ?_;refine Wi 16 0 h (sT (sC sB)) (SG _) λv1 h18=>?_;obtain⟨_,_⟩:=v1;refine Wk [] 0 [] Wz

theorem auG x' r (h:n12 x'=some r) (Qm:Int) (amf:ah x'.fl=Qm) (pV:Bool):lK Tryz.prog 427 [.agg 7 (λj=>match j with|0=>.vec 0 0 1 0 Qm|1=>Li aj x'.alK|2=>vi x'.EY|3=>vi x'.alL|4=>vi x'.alM|5=>vi x'.ab0|6=>Am aj x'.YE|_=>.junk)] [Ri aj 0 Qm pV x'.fl] [Ri aj 0 Qm pV r] (.jO 0 (λ_=>.junk)):=by
  obtain rfl:aj.len x'.fl=Qm:=amf;obtain⟨q,_,_,q3,_,_,_⟩:=x';unfold n12 at h;try dsimp only at h
  refine QX Tryz.func427 (tC Tryz.f427) λctr hc=>?_;revert h;refine bT 2 [] 1 [] (Wq ?_);intro h;intros;refine Tr.block ?_;refine gy h (ctr+2) [(2,79)] [(0,1)] (λ(i,o) u=>⟨[(2,vi i)],[(0,Ri aj (0) (aj.len q) (pV) o)],λ_=>ah o=(ah q)⟩) dN (λx uc ug ut f ht hu hp h=>?_);obtain⟨i,o⟩:=x;try dsimp only at hp h
  revert h;refine bT 1 [] 1 [] (Wq ?_);intro h;intros;refine Tr.block ?_;refine aZ ?_;refine Wo 18 0 (SK (aB 0 o (0+i))) λv h34=>?_;revert h;refine kK 2 [] 1 [] (Wq ?_);intro h;intros;refine bR h (uc+3) [(3,1),(18,15)] [] (λend' u1=>Fa [(3,vi end')] []) (λend' dQ iN iG ht hu hp h=>?_) (λf h=>?_)
  . revert h;refine bT 1 [] 1 [] (Wq ?_);intro h;intros;refine bR h (dQ+1) [(4,1),(36,9)] [] (λBA u2=>Fa [(4,vi BA)] []) (λBA lD qW pU ht hu hp h=>?_) (λf h=>?_)
    . refine bR h lD [(5,1),(44,11)] [] (λ_ u3=>Fa [(5,vi q3)] []) (λx oV BD zT ht hu hp h=>?_) (λf h=>?_)
      . revert h;refine bT 1 [] 1 [] (Wq ?_);intro h;intros;refine bR h (oV+1) [(6,1),(56,8)] [] (λEW u4=>Fa [(6,vi EW)] []) (λEW yN MQ JN ht hu hp h=>?_) (λf h=>?_)
        . refine Tr.block ?_;refine gy h yN [(2,1),(68,10)] [(0,1)] (λ(i2,o1) u5=>⟨[(2,vi i2)],[(0,Ri aj (0) (aj.len q) (pV) o1)],λ_=>ah o1=(ah q)⟩) dN (λx NK XU UN f ht hu hp h=>?_);obtain⟨_,_⟩:=x;try dsimp only at hp h
          refine Wx [] 1 [] Wz
        refine Wx [] 1 [] Wz
      refine Wx [] 1 [] Wz
    refine aZ ?_;refine Wo 50 0 (afL (aB 0 o (0+(i-1)))) λv1 h53=>?_;refine Wk [] 1 [] Wz
  refine Tr.block ?_;refine gy h (uc+3) [(3,1),(18,15)] [] (λDc u6=>Fa [(3,vi Dc)] []) dN (λDc Zf u6g u6t f ht hu hp h=>?_);refine aZ ?_;refine uh 34 0 (decide (Dc<(ah q))) (SK (aB 0 o (0+Dc))) false λv2 h61=>?_;refine Wk [] 1 [] Wz

theorem WU a b r (h:yS a b=some r):Pf 30 [IB aj a,IB aj b] (vb r):=by
  obtain⟨_,_,_,⟨_,_⟩,_,_⟩:=a;obtain⟨_,_,_,⟨_,_⟩,_,_⟩:=b;unfold yS at h;try dsimp only at h
  refine bf Tryz.func30 λctr hc=>?_;refine aZ ?_;refine om 40 0 h sB (WZ _ _) λv h1=>?_;refine Wk [] 0 [] Wz

theorem Jp s r (h:yV s=some r):Pf 77 [pJ aj s] (aS aj r):=by
  unfold yV at h;refine bf Tryz.func77 λctr hc=>?_;refine aZ ?_;refine Wo 12 0 (Ci s.fC) λv h1=>?_;refine Wk [] 0 [] Wz

theorem Vg s r (h:DU s=some r):Pf 39 [qw aj s] (aV aj r):=by
  unfold DU at h;refine bf Tryz.func39 λctr hc=>?_;refine aZ ?_;refine Wo 5 0 (Jp s.aI) λv h1=>?_;refine Wo 8 0 (Jp s.aM) λv1 h2=>?_;refine Wo 18 0 (Ci s.aC.x0) λv2 h3=>?_;refine Wo 22 0 (Ci s.aC.x1) λv3 h4=>?_;refine Wk [] 0 [] Wz

end Go.Vx
