/- Walks, by program (lift5.py): the code does what the lifted functions say. -/
import Derived.Test.YtmpgicplgjmjkaaGreatDoorTWb13
import Derived.Test.YtmpgicplgjmjkaaGreatDoorTWb16
set_option linter.all false
namespace Go.Vx
open Go.Proofs
set_option maxRecDepth 100000
set_option maxHeartbeats 8000000
set_option linter.unusedVariables false
set_option linter.unusedSimpArgs false
attribute [local irreducible] chk aA au aO oH

theorem afx s m r (h:FH s m=some r):Pf 110 [aS aj s,vi m] (aS aj r):=by
  obtain⟨⟨_⟩,⟨_,_,_,_,⟨_,_,_⟩,⟨⟨_,_,_,_⟩,_,_,_⟩⟩,⟨_,_,_,_⟩,⟨_,_⟩,⟨_,_⟩,_,_⟩:=s;unfold FH at h;try dsimp only at h
  refine bf Tryz.func110 λctr hc=>?_;refine aZ ?_;refine Wi 7 0 h sB (jo _) λv h1=>?_;revert h;refine kK 3 [] 0 [] (Wq ?_);intro h;intros;refine bR h (ctr+3) [(13,6)] [(5,1)] (λWl u=>Fa [] [(5,.box (ctr+2) [vi Wl])]) (λWl uc ug ut ht hu hp h=>?_) (λf h=>?_)
  . refine bR h uc [(19,3)] [] (λ_ u1=>Fa [] []) (λx dQ iN iG ht hu hp h=>?_) (λf h=>?_)
    . refine aZ ?_;refine Wi 25 8 h sB (mZ _ _) λv1 h3=>?_;refine Wk [24] 0 [] Wz
    refine Wx [] 0 [] Wz
  refine Wx [] 0 [] Wz

theorem U5 s r (h:BP s=some r):Pf 311 [aS aj s] (aS aj r):=by
  obtain⟨⟨_⟩,⟨_,_,_,_,⟨_,_,_⟩,⟨⟨_,_,_,_⟩,_,_,_⟩⟩,⟨_,_,_,_⟩,⟨_,_⟩,⟨_,_⟩,_,_⟩:=s;unfold BP at h;try dsimp only at h
  refine bf Tryz.func311 λctr hc=>?_;refine aZ ?_;refine Wi 14 0 h (sC (sT sB)) (Zr _ _) λv h2=>?_;refine Wk [] 0 [] Wz

theorem U6 s r (h:BQ s=some r):Pf 218 [aS aj s] (aS aj r):=by
  unfold BQ at h;refine bf Tryz.func218 λctr hc=>?_;refine aZ ?_;refine Wo 4 0 (Jl true) λv h1=>?_;refine Wi 6 0 h (sK v sB) (mZ _ _) λv1 h2=>?_;refine Wo 7 0 (U5 v1) λv2 h3=>?_;refine Wk [5] 0 [] Wz

theorem ad7 s r' w insert auto r (h:Dz s r' w insert auto=some r):Pf 111 [aS aj s,vi r',vi w,vb insert,vb auto] (aS aj r):=by
  obtain⟨⟨_⟩,⟨_,_,_,_,⟨_,_,_⟩,⟨⟨_,_,_,_⟩,_,_,_⟩⟩,⟨_,_,_,_⟩,⟨_,_⟩,⟨_,_⟩,_,_⟩:=s;unfold Dz at h;try dsimp only at h
  refine bf Tryz.func111 λctr hc=>?_;refine aZ ?_;refine Wi 16 0 h sB (jo _) λv h1=>?_;revert h;refine kK 3 [999] 0 [] (Wq ?_);intro h;intros;refine bR h (ctr+3) [(46,8)] [(5,1)] (λs1 u=>Fa [] [(5,.box (ctr+0) (cellsOf 25 λj=>(og aj s1 j)))]) (λx uc ug ut ht hu hp h=>?_) (λf h=>?_)
  . obtain⟨⟨_⟩,⟨_,_,_,_,⟨_,_,_⟩,⟨⟨_,_,_,_⟩,_,_,_⟩⟩,⟨_,_,_,_⟩,⟨_,_⟩,⟨_,_⟩,_,_⟩:=x;try dsimp only at hp h
    refine bR h uc [(54,18)] [(5,1)] (λs2 u1=>Fa [] [(5,.box (ctr+0) (cellsOf 25 λj=>(og aj s2 j)))]) (λx dQ iN iG ht hu hp h=>?_) (λf h=>?_)
    . obtain⟨⟨_⟩,⟨U7,_,_,_,⟨_,_,_⟩,⟨⟨_,_,_,_⟩,_,_,_⟩⟩,⟨_,NS,_,_⟩,⟨_,_⟩,⟨_,_⟩,_,_⟩:=x;try dsimp only at hp h
      revert h;refine bT 2 [999] 0 [] (Wq ?_);intro h;intros;refine bR h (dQ+2) [(14,1),(67,12)] [(93,1)] (λsteps u2=>Fa [(14,.vec 93 (u2.g 93) 1 0 (aj.len steps))] [(93,.arr (u2.g 93) 1 (aj.len steps) (u2.t 93) (λix jx=>(.fn (.func (aj.fF (aj.get V9 steps ix))) (aj.fK (aj.get V9 steps ix)) (aj.fC (aj.get V9 steps ix)))))]) (λsteps lD qW pU ht hu hp h=>?_) (λf h=>?_)
      . refine aZ ?_;refine Wi 100 8 h (sC sB) (mZ _ _) λv1 h11=>?_;refine Wk [96,999] 0 [(15,[.freeze (.slot 14)])] Wz
      refine aZ ?_;refine Wi 90 0 h (sT sB) (ko _) λv2 h13=>?_;refine Wo 91 0 (MR U7 w NS v2) λv3 Yr=>?_;refine Wk [92,999] 0 [] Wz
    refine aZ ?_;refine Wi 65 0 h (sT (sT sB)) (U6 _) λv4 h16=>?_;refine Wk [999] 0 [] Wz
  refine aZ ?_;refine Wi 53 0 h (sT sB) (U6 _) λv5 h18=>?_;refine Wk [999] 0 [] Wz

theorem Qh s d' r' r (h:wZ s d' r'=some r):Pf 53 [aV aj s,dF aj d',vi r'] (aV aj r):=by
  unfold wZ at h;refine bf Tryz.func53 λctr hc=>?_;refine aZ ?_;refine Wo 10 0 (eD s) λv h1=>?_;refine Wo 13 0 (ai6 d' r') λv1 h2=>?_;refine Wo 19 0 (afx v r') λv2 h3=>?_;refine Wo 20 0 (jc s v2) λv3 h4=>?_;refine Wo 27 0 (tJ s.fM false 4) λv4 h5=>?_;refine Wo 30 0 (tJ s.fM true 7) λv5 h6=>?_;refine Wo 31 0 (ad7 v r' v1 v4 v5) λv6 h7=>?_;refine Wo 32 0 (jc s v6) λv7 h8=>?_;refine Wk [] 0 [] Wz

theorem KL s r (h:yA s=some r):Pf 228 [aS aj s] (aS aj r):=by
  unfold yA at h;refine bf Tryz.func228 λctr hc=>?_;refine aZ ?_;refine Wo 4 0 (jo s) λv h1=>?_;refine Wo 8 0 (U5 s) λv1 h2=>?_;refine Wk [] 0 [] Wz

theorem afy x' u r (h:Fv x' u=some r):Pf 122 [aS aj x',vi u] (aS aj r):=by
  unfold Fv at h;refine bf Tryz.func122 λctr hc=>?_;refine aZ ?_;refine Wo 6 0 (KL x') λv h1=>?_;refine Wk [] 0 [] Wz

theorem Yn x' u r (h:vM x' u=some r):Pf 123 [aS aj x',vi u] (aS aj r):=by
  unfold vM at h;refine bf Tryz.func123 λctr hc=>?_;refine aZ ?_;refine Wo 6 0 (KL x') λv h1=>?_;refine Wo 7 0 (Jg v) λv1 h2=>?_;refine Wk [] 0 [] Wz

theorem ai7 x' u r (h:Md x' u=some r):Pf 125 [aS aj x',vi u] (aS aj r):=by
  unfold Md at h;refine bf Tryz.func125 λctr hc=>?_;refine aZ ?_;refine Wo 6 0 (ai3 x') λv h1=>?_;refine Wk [] 0 [] Wz

theorem Qi s n r (h:wY s n=some r):Pf 149 [aS aj s,vi n] (aS aj r):=by
  obtain⟨⟨q⟩,⟨_,_,_,_,⟨_,_,_⟩,⟨⟨_,_,_,_⟩,_,_,_⟩⟩,⟨_,_,yO,wO⟩,⟨_,_⟩,⟨_,_⟩,_,_⟩:=s;unfold wY at h;try dsimp only at h
  refine bf Tryz.func149 λctr hc=>?_;refine aZ ?_;refine Wi 6 0 h sB (jo _) λv h1=>?_;refine Wi 13 0 h (sK v (sF (sT sB))) (Zr _ _) λv1 h2=>?_;revert h;refine kK 3 [] 0 [] (Wq ?_);intro h;intros;refine bR h (ctr+3) [(1,1),(12,6)] [] (λn1 u=>Fa [(1,vi n1)] []) (λn1 uc ug ut ht hu hp h=>?_) (λf h=>?_)
  . refine aZ ?_;refine Wi 31 0 h (sC sB) (ko _) λv2 h5=>?_;refine Wo 32 0 (Qf ⟨q⟩ yO wO (0-n1) v2) λv3 h6=>?_;refine Wk [] 0 [] Wz
  refine Wx [] 0 [] Wz

theorem U8 x' n r (h:sJ x' n=some r):Pf 150 [aS aj x',vi n] (aS aj r):=by
  unfold sJ at h;refine bf Tryz.func150 λctr hc=>?_;refine aZ ?_;refine Wo 8 0 (Qi x' (0-n)) λv h2=>?_;refine Wk [] 0 [] Wz

theorem Cc s kind r (h:oZ s kind=some r):Pf 244 [aS aj s,vi kind] (aS aj r):=by
  obtain⟨⟨_⟩,⟨q1,_,_,_,⟨_,_,_⟩,⟨⟨_,_,_,_⟩,_,_,_⟩⟩,⟨_,q16,_,_⟩,⟨_,_⟩,⟨_,_⟩,_,_⟩:=s;unfold oZ at h;try dsimp only at h
  refine bf Tryz.func244 λctr hc=>?_;refine aZ ?_;refine Wi 7 0 h sB (ko _) λv h1=>?_;refine Wo 20 0 (AO q1 q16 v) λv1 h2=>?_;refine Wo 21 0 (Jl false) λv2 h3=>?_;refine Wi 23 0 h (sK v (sT (sK v1 (sK v2 sB)))) (mZ _ _) λv3 h4=>?_;refine Wo 32 0 (AO 0 (q1+1) v) λv4 h6=>?_;refine Wi 34 0 h (sK v (sF (sT (sC (sK v4 sB))))) (mZ _ _) λv5 h7=>?_;refine Wo 42 0 (AO 0 q16 v) λv6 h8=>?_;refine Wod 43 0 h3 ?_;refine Wi 45 0 h (sK v (sF (sF (sT (sK v6 (sK v2 sB)))))) (mZ _ _) λv7 h9=>?_;refine Wk [22,33,44] 0 [] Wz

theorem Jm s kind r (h:vY s kind=some r):Pf 142 [aS aj s,vi kind] (aS aj r):=by
  unfold vY at h;refine bf Tryz.func142 λctr hc=>?_;refine aZ ?_;refine Wo 7 0 (jo s) λv h1=>?_;refine Wo 11 0 (ko s) λv1 h2=>?_;refine Wo 17 0 (Cc s 0) λv2 h3=>?_;obtain⟨⟨q⟩,⟨_,q2,_,_,⟨_,_,_⟩,⟨⟨_,_,_,_⟩,_,_,_⟩⟩,⟨zG,_,_,_⟩,⟨_,_⟩,⟨_,_⟩,_,_⟩:=v2;refine Wo 28 0 (Nu ⟨q⟩ (q2+1) zG v1) λv3 h5=>?_;refine Wo 33 0 (Cc s 1) λv4 h6=>?_;refine Wo 40 0 (Nu v4.fG 0 v4.fC.fY v1) λv5 h7=>?_;refine Wo 50 0 (Nu s.fG 0 s.fR.fH v1) λv6 h8=>?_;refine Wo 57 0 (UO s.fK.iw) λv7 h9=>?_;refine Wk [] 0 [] Wz

theorem Yo s kind r (h:vX s kind=some r):Pf 143 [aS aj s,vi kind] (aS aj r):=by
  unfold vX at h;refine bf Tryz.func143 λctr hc=>?_;refine aZ ?_;refine Wo 6 0 (jo s) λv h1=>?_;refine Wo 11 0 (Cc s kind) λv1 h2=>?_;refine Wk [] 0 [] Wz

theorem U9 s n r (h:sQ s n=some r):Pf 146 [aS aj s,vi n] (aS aj r):=by
  unfold sQ at h;refine bf Tryz.func146 λctr hc=>?_;refine aZ ?_;refine Wo 6 0 (jo s) λv h1=>?_;refine Wo 19 0 (ko s) λv1 h2=>?_;refine Wo 20 0 (MR s.fC.fX (aY n 1) s.fR.fW v1) λv2 h3=>?_;refine Wo 22 0 (mZ s ([v2]:List FV)) λv3 h4=>?_;refine Wk [21] 0 [] Wz

theorem Va s n r (h:sS s n=some r):Pf 147 [aS aj s,vi n] (aS aj r):=by
  obtain⟨⟨q⟩,⟨q1,q2,q3,q4,⟨q5,q6,q7⟩,⟨⟨q8,q9,BG,BH⟩,BI,BJ,EX⟩⟩,⟨zG,q16,yO,wO⟩,⟨JO,JQ⟩,⟨Df,q22⟩,Hr,q24⟩:=s;unfold sS at h;try dsimp only at h
  refine bf Tryz.func147 λctr hc=>?_;refine aZ ?_;refine Wi 8 0 h sB (jo _) λv h1=>?_;refine Wi 15 0 h (sK v (sF sB)) (ko _) λv1 h2=>?_;obtain⟨Hz,JR,NM⟩:=v1;refine Wo 18 0 (Jl false) λv2 h3=>?_;refine Wo 20 8 (mZ ⟨⟨q⟩,⟨q1,q2,q3,q4,⟨q5,q6,q7⟩,⟨⟨q8,q9,BG,BH⟩,BI,BJ,EX⟩⟩,⟨zG,q16,yO,wO⟩,⟨JO,JQ⟩,⟨Df,q22⟩,Hr,q24⟩ ([(FV.box (FV.int (FV.int (FV.nil 249) .i64 q1) .i64 n) 3 [(0,.int .i64 Hz),(1,.int .i64 JR),(2,.int .i64 NM)]),v2]:List FV)) λv3 h4=>?_;refine Wk [19] 0 [] Wz

theorem WW s n r (h:uO s n=some r):Pf 148 [aS aj s,vi n] (aS aj r):=by
  obtain⟨⟨_⟩,⟨q1,_,_,_,⟨_,_,_⟩,⟨⟨_,_,_,_⟩,_,_,_⟩⟩,⟨_,q16,_,_⟩,⟨_,_⟩,⟨_,_⟩,_,_⟩:=s;unfold uO at h;try dsimp only at h
  refine bf Tryz.func148 λctr hc=>?_;refine aZ ?_;refine Wi 6 0 h sB (jo _) λv h1=>?_;refine Wi 25 0 h (sK v (sF (sC sB))) (ko _) λv1 h3=>?_;refine Wo 26 0 (AO q1 (q1+(aY 1 (aP n q16))) v1) λv2 h4=>?_;refine Wi 28 0 h (sK v (sF (sC (sK v1 (sK v2 sB))))) (mZ _ _) λv3 h5=>?_;refine Wk [27] 0 [] Wz

theorem agA v a0 a1 r (h:Uu v a0 a1=some r):Pf (aj.fF v) ([aS aj a0,vi a1]++cellsOf (aj.fK v) (aj.fC v)) (aS aj r):=by
  unfold Uu at h;split at h
  . exact Zy a0 a1 _ r h
  . exact WM a0 a1 r h
  . exact WR a0 a1 r h
  . exact WO a0 a1 r h
  . exact afy a0 a1 r h
  . exact Yn a0 a1 r h
  . exact ai7 a0 a1 r h
  . exact U3 a0 a1 r h
  . exact U8 a0 a1 r h
  . exact acr a0 a1 r h
  . exact Ns a0 a1 r h
  . exact Jm a0 a1 r h
  . exact Yo a0 a1 r h
  . exact WS a0 a1 r h
  . exact WT a0 a1 r h
  . exact U9 a0 a1 r h
  . exact Va a0 a1 r h
  . exact WW a0 a1 r h
  . exact Qi a0 a1 r h
  cases h

theorem afz s u u1 r (h:Fh s u u1=some r):Pf 118 [aV aj s,dF aj u,gG aj u1] (aV aj r):=by
  unfold Fh at h;refine bf Tryz.func118 λctr hc=>?_;refine aZ ?_;refine Wo 9 0 (eD s) λv h1=>?_;refine Wo 10 0 (KL v) λv1 h2=>?_;revert h;refine kK 2 [] 0 [] (Wq ?_);intro h;intros;refine bR h (ctr+2) [(11,5)] [(7,1)] (λx' u2=>Fa [] [(7,.box (ctr+1) (cellsOf 25 λj=>(og aj x' j)))]) (λx' lD qW pU ht hu hp h=>?_) (λf h=>?_)
  . refine aZ ?_;refine Wo 18 0 (jc s x') λv2 h5=>?_;refine Wk [] 0 [] Wz
  refine aZ ?_;refine Wi 13 0 h sB (tJ _ _ _) λv3 h6=>?_;refine Wo 15 0 (Jg v1) λv4 h7=>?_;refine Wk [] 0 [] Wz

theorem aa7 s d' a n on r (h:zf s d' a n on=some r):Pf 264 [aV aj s,dF aj d',gG aj a,vi n,vb on] (aV aj r):=by
  obtain⟨⟨⟨_⟩,⟨_,_,_,_,⟨_,_,_⟩,⟨⟨_,_,_,_⟩,_,_,_⟩⟩,⟨_,_,_,_⟩,⟨_,_⟩,⟨_,_⟩,_,_⟩,⟨⟨_⟩,⟨_,_,_,_,⟨_,_,_⟩,⟨⟨_,_,_,_⟩,_,_,_⟩⟩,⟨_,_,_,_⟩,⟨_,_⟩,⟨_,_⟩,_,_⟩,_,⟨_⟩,⟨⟨_,_,_,_,⟨_,_,_⟩,⟨⟨_,_,_,_⟩,_,_,_⟩⟩,⟨_,_,_,_,⟨_,_,_⟩,⟨⟨_,_,_,_⟩,_,_,_⟩⟩⟩,_,_,_⟩:=s;unfold zf at h;try dsimp only at h
  refine bf Tryz.func264 λctr hc=>?_;refine aZ ?_;refine Wi 16 0 h (sT sB) (eD _) λv h1=>?_;refine Wi 22 0 h (sT (sK v sB)) (KN _) λv1 h2=>?_;refine Wi 23 0 h (sT (sK v (sK v1 sB))) (jc _ _) λv2 h3=>?_;refine Wi 38 0 h (sF (sF (sT (sT sB)))) (Jm _ _) λv3 h4=>?_;refine Wi 48 0 h (sF (sF (sF (sT (sT sB))))) (Vb _ _ _) λv4 h5=>?_;refine Wi 52 0 h (sF (sF (sF (sT (sF sB))))) (Fb _ _ _) λv5 h6=>?_;refine Wi 61 0 h (sF (sF (sF (sF (sT (sT sB)))))) (Fb _ _ _) λv6 h7=>?_;refine Wod 65 0 h5 ?_;refine Wo 69 0 (Jm v4.aM 2) λv7 h8=>?_;refine Wk [] 0 [] Wz

theorem Vd s d' a cap0 r (h:sG s d' a cap0=some r):Pf 263 [aV aj s,dF aj d',gG aj a,.gX 1 1 (λ_ j=>(vb cap0)) 0 0] (aV aj r):=by
  obtain⟨_,_,_,_,q4,_⟩:=a;unfold sG at h;try dsimp only at h
  refine bf Tryz.func263 λctr hc=>?_;revert h;refine bT 1 [] 0 [] (Wq ?_);intro h;intros;refine bR h (ctr+1) [(8,25)] [(4,1)] (λs1 u=>Fa [] [(4,.box (ctr+0) (cellsOf 83 λj=>(mO aj s1 j)))]) (λs1 uc ug ut ht hu hp h=>?_) (λf h=>?_)
  . refine aZ ?_;refine Wo 34 0 (xQ s1) λv h9=>?_;refine Wk [] 0 [] Wz
  revert h;refine bT 1 [] 0 [] (Wq ?_);intro h;intros;refine Tr.block ?_;refine gy h (ctr+2) [(8,2),(3,20)] [(4,1)] (λ(v1,s2) u1=>Fa [(13,vi v1)] [(4,.box (ctr+0) (cellsOf 83 λj=>(mO aj s2 j)))]) dN (λx dQ iN iG f ht hu hp h=>?_);obtain⟨v1,s2⟩:=x;try dsimp only at hp h
  refine aZ ?_;refine Wo 19 0 (Gm q4 v1 0) λv2 h18=>?_;refine Wo 24 0 (Zg s2.fM true v2 cap0) λv3 h19=>?_;refine Wi 31 0 h (sT (sK v2 (sK v3 sB))) (aa7 _ _ _ _ _) λv4 h20=>?_;refine Wk [] 0 [] Wz

end Go.Vx
