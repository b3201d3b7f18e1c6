/- Walks, by program (lift5.py): the code does what the lifted functions say. -/
import Derived.Test.YtckmalogclklmaaGreatDoorTHead
import Derived.Test.YtckmalogclklmaaGreatDoorTWb2
import Derived.Test.YtckmalogclklmaaGreatDoorTWb3
import Derived.Test.YtckmalogclklmaaGreatDoorTWb4
import Derived.Test.YtckmalogclklmaaGreatDoorTWb5
import Derived.Test.YtckmalogclklmaaGreatDoorTWb6
import Derived.Test.YtckmalogclklmaaGreatDoorTWb7
import Derived.Test.YtckmalogclklmaaGreatDoorTWb8
import Derived.Test.YtckmalogclklmaaGreatDoorTDg
import Derived.Test.YtckmalogclklmaaGreatDoorTSd
import Derived.Test.YtckmalogclklmaaGreatDoorTCh
set_option linter.all false
namespace Go.Vx
open Go.Proofs
set_option maxRecDepth 100000
set_option maxHeartbeats 8000000
set_option linter.unusedVariables false
set_option linter.unusedSimpArgs false
attribute [local irreducible] chk ay av aM lI

theorem aa6 l' jU oF w p' r (h:TQ l' jU oF w p'=some r) (AX:Int) (ag6:ah l'=AX) (l8:Bool):jc Tryz.prog 179 [.vec 0 0 4 jU oF,vi w,zm aj p'] [iM aj 0 AX l8 l'] [iM aj 0 AX l8 r] (.gX 0 (fun _=>.junk)):=by
  unfold TQ at h
  refine Il Tryz.func179 (mH Tryz.f179) fun ctr hc=>?_
  replace h:=dQ h;obtain ⟨h10,h⟩:=h
  revert h;refine bE 2 [] 1 [] (Wq ?_);intro h;intros
  refine Tr.block ?_
  refine dO h (ctr+2) [(6,1),(2,10)] [(0,1)] (fun (v,gG) u=>⟨[(9,vi v)],[(0,iM aj (0) AX (l8) gG)],fun _=>ah gG=AX⟩) bW (fun x uc ug ut f ht hu hp h=>?_)
  obtain ⟨_,_⟩:=x
  try dsimp only at hp h
  refine bB ?_
  refine Wo 17 0 (MH w p') fun v1 h7=>?_
  refine Wk [] 1 [] Wz

theorem aa7 h' w p' r (h:TR h' w p'=some r):Pf 134 [vi h',vi w,zm aj p'] (qP aj r):=by
  unfold TR at h
  refine bC Tryz.func134 fun ctr hc=>?_
  refine Wxc 2 [] 0 [] h ctr [(5,7)] [(5,2),(4,1)] (fun _ u=>Fa [(5,.dI 5 (u.g 5) 0),(6,.dI 6 (u.g 6) 0),(7,.vec 11 (u.g 11) 4 0 ((std Tryz.prog).imax 1 ((std Tryz.prog).uf h' 1000)))] [(5,.box (u.g 5) [vi p'.jP,vi p'.jQ,vi p'.dU]),(6,.box (u.g 6) [.cO]),(11,iM aj (u.g 11) ((std Tryz.prog).imax 1 ((std Tryz.prog).uf h' 1000)) (u.t 11) (aj.rep ((std Tryz.prog).imax 1 ((std Tryz.prog).uf h' 1000)) aA))]) (fun x uc ug ut ht hu hp h=>?_) (fun f h=>Wz)
  refine bB ?_
  refine IJ 15 (fun r h=>aa6 (iG (bR 1 (bH h' 1000)) aA) 0 (bR 1 (bH h' 1000)) w p' r h (((std Tryz.prog).imax 1 ((std Tryz.prog).uf h' 1000))) Wy (ut 11)) fun v h2=>?_
  refine Wk [] 0 [] Wz

theorem NN h' w kept r (h:EY h' w kept=some r):Pf 91 [vi h',vi w,vi kept] (gJ aj r):=by
  unfold EY at h
  refine bC Tryz.func91 fun ctr hc=>?_
  refine bB ?_
  refine Wo 12 0 (yO h' w) fun v h1=>?_
  obtain ⟨⟨_,_,_,_,⟨_,_,_⟩,⟨⟨_,_,_,_⟩,_,_,_⟩⟩,⟨_,_,_,_⟩⟩:=v
  refine Wo 18 0 (aa7 h' w lq) fun v1 h2=>?_
  refine Wo 22 0 (Tf w) fun v2 h3=>?_
  refine Wo 24 0 (Xk kept) fun v3 h4=>?_
  refine Wk [] 0 [] Wz

theorem Og r (h:y9=some r):Pf 146 [] ((Ns aj r)):=by
  unfold y9 at h
  refine bC Tryz.func146 fun ctr hc=>?_
  refine bB ?_
  refine Wi 2 6 h sB (zh _) fun v h1=>?_
  refine Wo 3 0 (nT (-1) 0 false) fun v1 h2=>?_
  refine Wo 5 0 (nT 1 0 false) fun v2 h3=>?_
  refine Wo 7 0 (nT 0 1 false) fun v3 h4=>?_
  refine Wo 9 0 (nT 0 (-1) false) fun v4 h5=>?_
  refine Wod 11 0 h4 ?_
  refine Wod 13 0 h3 ?_
  refine Wo 15 0 (nT 1 0 true) fun v5 h6=>?_
  refine Wo 17 0 (nT (-1) 0 true) fun v6 h7=>?_
  refine Wo 23 6 (zh (FV.nil 216)) fun v7 h8=>?_
  refine Wo 27 6 (ji (FV.nil 196)) fun v8 h9=>?_
  refine Wo 29 6 (ji (FV.nil 219)) fun v9 h10=>?_
  refine Wo 31 6 (wD (FV.nil 221)) fun v10 h11=>?_
  refine Wo 33 6 (wD (FV.nil 222)) fun v11 h12=>?_
  refine Wo 35 6 (ji (FV.nil 223)) fun v12 h13=>?_
  refine Wo 37 6 (ji (FV.nil 224)) fun v13 h14=>?_
  refine Wo 39 6 (ji (FV.nil 225)) fun v14 h15=>?_
  refine Wo 41 6 (ji (FV.nil 226)) fun v15 h16=>?_
  refine Wo 43 6 (ji (FV.nil 227)) fun v16 h17=>?_
  refine Wo 45 6 (ji (FV.nil 228)) fun v17 h18=>?_
  refine Wo 47 6 (ji (FV.nil 229)) fun v18 h19=>?_
  refine Wo 50 6 (wD (FV.nil 231)) fun v19 h20=>?_
  refine Wo 56 0 (BA true) fun v20 h21=>?_
  refine Wo 58 0 (BA false) fun v21 h22=>?_
  refine Wo 61 6 (Uf 0 (FV.nil 237)) fun v22 h23=>?_
  refine Wk [63] 0 [] Wz

theorem Xl s w r (h:yh s w=some r):Pf 86 [vO aj s,vi w] (vO aj r):=by
  obtain ⟨q,q1⟩:=s
  unfold yh at h
  try dsimp only at h
  refine bC Tryz.func86 fun ctr hc=>?_
  refine bB ?_
  refine Wo 8 0 (Pm ⟨q,q1⟩) fun v h1=>?_
  refine Wo 10 0 (Tf 80) fun v1 h2=>?_
  refine Wo 12 0 (NP w) fun v2 h3=>?_
  refine Wi 15 3 h (sK v (sF (sK v2 sB))) (Xm _ _) fun v3 h4=>?_
  revert h;refine jI 4 [] 0 [] (Wq ?_);intro h;intros
  refine bq h (ctr+4) [(5,2),(9,15)] [(15,1)] (fun l' u=>Fa [(5,.vec 15 (u.g 15) 1 0 (aj.len l'))] [(15,Ri aj (u.g 15) (aj.len l') (u.t 15) l')]) (fun l' uc ug ut ht hu hp h=>?_) (fun f h=>?_)
  · refine Wx [] 0 [] Wz
  · revert h;refine bE 1 [] 0 [] (Wq ?_);intro h;intros
    refine Tr.block ?_
    refine dO h (ctr+5) [(5,2),(15,9)] [(15,1),(14,1)] (fun (Ei,gG) u1=>Fa [(5,.vec 15 (u1.g 15) 1 0 (aj.len gG)),(6,vi Ei)] [(15,Ri aj (u1.g 15) (aj.len gG) (u1.t 15) gG)]) bW (fun x cu fJ fE f ht hu hp h=>?_)
    obtain ⟨_,_⟩:=x
    try dsimp only at hp h
    refine Wx [29] 0 [] Wz

theorem Xn d' r' r (h:JK d' r'=some r):Pf 268 [dZ aj d',Li aj r'] (Ui aj r):=by
  unfold JK at h
  refine bC Tryz.func268 fun ctr hc=>?_
  refine bB ?_
  refine Wo 11 0 (Xg) fun v h1=>?_
  revert h;refine jI 4 [] 0 [] (Wq ?_);intro h;intros
  refine bq h (ctr+4) [(8,3),(5,49)] [(15,1)] (fun out u=>⟨[],[(15,Ri aj (ctr+3) (aj.len r') (u.t 15) out)],fun _=>ah out=(ah r')⟩) (fun out uc ug ut ht hu hp h=>?_) (fun f h=>?_)
  · try dsimp only at hp h
    refine Wx [] 0 [] Wz
  · revert h;refine bE 1 [] 0 [] (Wq ?_);intro h;intros
    refine Tr.block ?_
    refine dO h (ctr+5) [(8,3),(7,47)] [(15,1)] (fun (v1,aO) u1=>⟨[(18,vi v1)],[(15,Ri aj (ctr+3) (aj.len r') (u1.t 15) aO)],fun _=>ah aO=(ah r')⟩) bW (fun x cu fJ fE f ht hu hp h=>?_)
    obtain ⟨v1,_⟩:=x
    try dsimp only at hp h
    refine bB ?_
    refine Wo 23 4 (uh v1 1 v d' r') fun v2 h35=>?_
    refine IK 29 0 v2 (Vy d' r' v1) 0 fun v3 h36=>?_
    refine IK 30 4 v2 (uh v3 2 v d' r') false fun v4 h37=>?_
    refine Wo 34 4 (uh v1 2 v d' r') fun v5 h38=>?_
    refine IK 40 0 v5 (Kw d' r' v1) 0 fun v6 h39=>?_
    refine IK 41 4 v5 (uh v6 1 v d' r') false fun v7 h40=>?_
    refine Wk [] 0 [] Wz

theorem Vz d' r' levels boxes r (h:Gw d' r' levels boxes=some r):Pf 167 [dZ aj d',Li aj r',Li aj levels,vb boxes] (Ui aj r):=by
  unfold Gw at h
  refine bC Tryz.func167 fun ctr hc=>?_
  refine bB ?_
  refine Wo 20 1 (jF r') fun v h1=>?_
  refine Wo 29 1 (Xn d' r') fun v1 h2=>?_
  revert h;refine jI 4 [] 0 [] (Wq ?_);intro h;intros
  refine bq h (ctr+4) [(11,2),(17,35)] [(20,1)] (fun out u=>⟨[],[(20,Ri aj (ctr+1) (aj.len v) (u.t 20) out)],fun _=>ah out=(ah v)⟩) (fun out uc ug ut ht hu hp h=>?_) (fun f h=>?_)
  · try dsimp only at hp h
    refine bq h uc [(13,6),(46,48)] [] (fun _ u1=>Fa [] []) (fun x cu fJ fE ht hu hp h=>?_) (fun f h=>?_)
    · refine Wx [] 0 [] Wz
    · revert h;refine bE 1 [] 0 [] (Wq ?_);intro h;intros
      refine Tr.block ?_
      refine dO h (uc+1) [(13,6),(48,46)] [] (fun v2 u2=>Fa [(67,vi v2)] []) bW (fun v2 jB ny mF f ht hu hp h=>?_)
      refine bB ?_
      refine Wo 75 0 (Kw d' r' v2) fun v3 h34=>?_
      refine Wk [] 0 [] Wz
  · revert h;refine bE 1 [] 0 [] (Wq ?_);intro h;intros
    refine Tr.block ?_
    refine dO h (ctr+5) [(11,2),(19,33)] [(20,1)] (fun (v4,aO) u3=>⟨[(32,vi v4)],[(20,Ri aj (ctr+1) (aj.len v) (u3.t 20) aO)],fun _=>ah aO=(ah v)⟩) bW (fun x nA vN vo f ht hu hp h=>?_)
    obtain ⟨v4,_⟩:=x
    try dsimp only at hp h
    revert h;refine bE 2 [] 0 [] (Wq ?_);intro h;intros
    refine bq h (nA+1) [(11,2),(21,30)] [(20,1)] (fun jy u4=>⟨[],[(20,Ri aj (ctr+1) (aj.len v) (u4.t 20) jy)],fun _=>ah jy=(ah v)⟩) (fun jy sw EM DR ht hu hp h=>?_) (fun f h=>?_)
    · try dsimp only at hp h
      refine Wx [] 0 [] Wz
    · refine Tr.block ?_
      refine bB ?_
      refine Wi 45 0 h (sA (sC (sC sB))) (ZJ _ _ _) fun v6 h73=>?_
      refine Wkc 2 [] 0 [] h (nA+1) [(11,2),(21,13)] [(20,1)] (fun kD u5=>⟨[(11,vi v4),(12,vi (aj.get 0 r' v4))],[(20,Ri aj (ctr+1) (aj.len v) (u5.t 20) kD)],fun _=>ah kD=(ah v)⟩) (fun kD GU Pg NK ht hu hp h=>?_) (fun f h=>Wz)
      try dsimp only at hp h
      refine bB ?_
      refine Wi 62 0 h (sC (sT (sC sB))) (VA _ _ _ _) fun v5 h69=>?_
      refine Wk [] 0 [] Wz

theorem aa8 d' l' y' p' r (h:TY d' l' y' p'=some r):Pf 112 [dZ aj d',iC aj l',vi y',FT aj p'] (xO aj r):=by
  obtain ⟨_,_,q2,_,q4⟩:=p'
  unfold TY at h
  try dsimp only at h
  refine bC Tryz.func112 fun ctr hc=>?_
  refine bB ?_
  refine Wi 22 1 h (sC sB) (Ky _) fun v h2=>?_
  refine Wo 29 0 (IL (au aA l' y')) fun v1 h4=>?_
  obtain ⟨q5,_⟩:=v1
  refine Wo 44 1 (Xo d' q5 (jw q2 (ah v) ((ah v)+(ah q5))) q4) fun v2 h7=>?_
  revert h;refine jI 6 [] 0 [] (Wq ?_);intro h;intros
  refine bq h (ctr+6) [(14,3),(36,30)] [(51,1)] (fun cells u=>⟨[],[(51,kS aj (ctr+4) (aj.len (aj.get aA l' y').aH) (u.t 51) cells)],fun _=>ah cells=(ah (au aA l' y').aH)⟩) (fun cells uc ug ut ht hu hp h=>?_) (fun f h=>?_)
  · try dsimp only at hp h
    refine bB ?_
    refine Wi 88 0 h sB (aa9 _ _ _ _) fun v3 h31=>?_
    refine Wk [] 0 [(15,[.freeze (.slot 13),.freeze (.slot 12)])] Wz
  · revert h;refine bE 1 [] 0 [] (Wq ?_);intro h;intros
    refine Tr.block ?_
    refine dO h (ctr+7) [(14,3),(42,24)] [(16,1),(34,1)] (fun (n,v4,GA) u1=>⟨[(14,vi n),(59,vi v4)],[(51,kS aj (ctr+4) (aj.len (aj.get aA l' y').aH) (u1.t 51) GA)],fun _=>ah GA=(ah (au aA l' y').aH)⟩) bW (fun x cu fJ fE f ht hu hp h=>?_)
    obtain ⟨_,_,_⟩:=x
    try dsimp only at hp h
    refine Wx [] 0 [] Wz

end Go.Vx
