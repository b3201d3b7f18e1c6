/- Walks, by program (lift5.py): the code does what the lifted functions say. -/
import Derived.Test.YtckmalogclklmaaGreatDoorTHead
import Derived.Test.YtckmalogclklmaaGreatDoorTWb2
import Derived.Test.YtckmalogclklmaaGreatDoorTWb3
import Derived.Test.YtckmalogclklmaaGreatDoorTWb4
import Derived.Test.YtckmalogclklmaaGreatDoorTWb5
import Derived.Test.YtckmalogclklmaaGreatDoorTWb6
import Derived.Test.YtckmalogclklmaaGreatDoorTWb7
import Derived.Test.YtckmalogclklmaaGreatDoorTWb8
import Derived.Test.YtckmalogclklmaaGreatDoorTDg
import Derived.Test.YtckmalogclklmaaGreatDoorTSd
import Derived.Test.YtckmalogclklmaaGreatDoorTCh
set_option linter.all false
namespace Go.Vx
open Go.Proofs
set_option maxRecDepth 100000
set_option maxHeartbeats 8000000
set_option linter.unusedVariables false
set_option linter.unusedSimpArgs false
attribute [local irreducible] chk ay av aM lI

theorem aa5 s b r (h:TU s b=some r):Pf 93 [Ju aj s,Lu aj b] (.gX 2 (fun j=>match j with | 0=>(Ju aj r.1) | 1=>(Li aj r.2) | _=>.junk)):=by
  obtain ⟨q⟩:=s
  unfold TU at h
  try dsimp only at h
  refine bC Tryz.func93 fun ctr hc=>?_
  refine bB ?_
  refine Wo 12 0 (Td ⟨q⟩) fun v h1=>?_
  revert h;refine jI 6 [] 0 [] (Wq ?_);intro h;intros
  refine bq h (ctr+6) [(5,6),(18,42)] [(28,1),(37,1)] (fun l' u=>Fa [(7,.vec 66 (u.g 66) 1 0 (aj.len l'))] [(66,Ri aj (u.g 66) (aj.len l') (u.t 66) l')]) (fun l' uc ug ut ht hu hp h=>?_) (fun f h=>?_)
  · refine Wx [] 0 [] Wz
  · refine Tr.block ?_
    have arh:=bQ ((((iG 0 0)++q)++b))
    refine dO h (ctr+6) [(5,6),(18,42)] [(28,1),(37,1)] (fun (qm,Aw,gG) u1=>⟨[(6,.vec 28 (ctr+4) 1 qm Aw),(7,.vec 66 (u1.g 66) 1 0 (aj.len gG))],[(28,Ru aj (ctr+4) ((std Tryz.prog).add ((std Tryz.prog).add 0 (aj.len q)) (aj.len b)) (u1.t 28) (aj.app (aj.app (aj.rep 0 0) q) b)),(66,Ri aj (u1.g 66) (aj.len gG) (u1.t 66) gG)],fun _=>0≤qm∧0≤Aw∧qm+Aw≤ah (((iG 0 0)++q)++b)⟩) bW (fun x cu fJ fE f ht hu hp h=>?_)
    obtain ⟨qm,_,_⟩:=x
    try dsimp only at hp h
    refine bB ?_
    refine Wi 34 4 h (sT sB) (NM _) fun v1 h26=>?_
    obtain ⟨_,q2⟩:=v1
    refine Wo 48 4 (YE (jw (((iG 0 0)++q)++b) (qm+0) ((qm+0)+(q2-0)))) fun v2 h28=>?_
    refine Wk [65] 0 [] Wz

theorem zf c' r' h' w r (h:nW c' r' h' w=some r):Pf 45 [kG aj c',jg aj r',vi h',vi w] (.gX 2 (fun j=>match j with | 0=>(kG aj r.1) | 1=>(jg aj r.2) | _=>.junk)):=by
  unfold nW at h
  refine bC Tryz.func45 fun ctr hc=>?_
  refine bB ?_
  refine Wo 15 0 (yO h' w) fun v h1=>?_
  obtain ⟨⟨_,_,_,_,⟨_,_,_⟩,⟨⟨_,_,_,_⟩,_,_,_⟩⟩,⟨Kv,GV,_,_⟩⟩:=v
  refine Wo 20 0 (sD c' r') fun v1 h2=>?_
  refine Wo 29 0 (rG c'.fX 0 (GV-1)) fun v2 h4=>?_
  refine Wo 36 0 (rG c'.fY 0 (Kv-1)) fun v3 h6=>?_
  refine Wk [999] 0 [] Wz

theorem YF d' r' l' r (h:LZ d' r' l'=some r):Pf 414 [dZ aj d',Li aj r',Li aj l'] (acu aj r):=by
  unfold LZ at h
  refine bC Tryz.func414 fun ctr hc=>?_
  revert h;refine bE 4 [] 0 [] (Wq ?_);intro h;intros
  refine bq h (ctr+4) [(6,8),(5,59)] [] (fun _ u=>Fa [(8,.cO)] []) (fun x uc ug ut ht hu hp h=>?_) (fun f h=>?_)
  · refine bB ?_
    refine Wi 79 0 h sB (wV _ _) fun v h5=>?_
    refine Wk [] 0 [] Wz
  · revert h;refine bE 1 [] 0 [] (Wq ?_);intro h;intros
    refine Tr.block ?_
    refine dO h (ctr+5) [(6,8),(7,57)] [] (fun v1 u1=>Fa [(7,.cO),(8,.cO),(21,vi v1)] []) bW (fun v1 cu fJ fE f ht hu hp h=>?_)
    revert h;refine bE 2 [] 0 [] (Wq ?_);intro h;intros
    refine bq h (cu+1) [(6,8),(9,54)] [] (fun _ u2=>Fa [(7,.cO),(8,.cO)] []) (fun x jB ny mF ht hu hp h=>?_) (fun f h=>?_)
    · refine Wx [] 0 [] Wz
    · refine Tr.block ?_
      refine Zk 4 [] 0 [] Wz

theorem Vw d' r' was l' level pY O3 r (h:Gu d' r' was l' level pY O3=some r):Pf 356 [dZ aj d',Li aj r',Li aj was,Li aj l',vi level,vi pY,vi O3] (Ui aj r):=by
  unfold Gu at h
  refine bC Tryz.func356 fun ctr hc=>?_
  refine bB ?_
  refine Wo 20 1 (jF l') fun v h1=>?_
  refine Wo 41 1 (YF d' r' l') fun v1 h2=>?_
  revert h;refine jI 4 [] 0 [] (Wq ?_);intro h;intros
  refine bq h (ctr+4) [(43,5)] [] (fun _ u=>Fa [] []) (fun x uc ug ut ht hu hp h=>?_) (fun f h=>?_)
  · refine bq h uc [(18,1),(22,1),(6,10)] [(16,1),(3,1),(20,1)] (fun out u1=>⟨[],[(20,Ri aj (ctr+1) (aj.len v) (u1.t 20) out)],fun _=>ah out=(ah v)⟩) (fun out cu fJ fE ht hu hp h=>?_) (fun f h=>?_)
    · try dsimp only at hp h
      refine Wx [] 0 [] Wz
    · revert h;refine bE 1 [48] 0 [] (Wq ?_);intro h;intros
      refine Tr.block ?_
      refine Tr.rounds 3 ?_
      refine iO h (uc+1) [(18,1),(22,1),(8,8)] [(16,1),(3,1),(20,1)] (fun aO u2=>⟨[(50,vi 1)],[(16,.box (ctr+3) [.vec 20 (ctr+1) 1 0 (aj.len v),Li aj was,vi pY,vi O3,vi 1,vi 2,tF aj v1]),(20,Ri aj (ctr+1) (aj.len v) (u2.t 20) aO)],fun _=>ah aO=(ah v)⟩) (fun aO jB ny mF ht hu hp h=>?_) (fun f h=>?_)
      · try dsimp only at hp h
        refine iO h jB [(18,1),(31,8)] [(20,1)] (fun jy u3=>⟨[(50,vi 2)],[(20,Ri aj (ctr+1) (aj.len v) (u3.t 20) jy)],fun _=>ah jy=(ah v)⟩) (fun jy nA vN vo ht hu hp h=>?_) (fun f h=>?_)
        · try dsimp only at hp h
          refine Zk 2 [] 0 [] Wz
        · revert h;refine bE 2 [] 0 [] (Wq ?_);intro h;intros
          refine bq h (jB+1) [(18,1),(33,5)] [(20,1)] (fun kD u4=>⟨[],[(20,Ri aj (ctr+1) (aj.len v) (u4.t 20) kD)],fun _=>ah kD=(ah v)⟩) (fun kD sw EM DR ht hu hp h=>?_) (fun f h=>?_)
          · try dsimp only at hp h
            refine Wx [] 0 [] Wz
          · refine Tr.block ?_
            refine bq h (jB+1) [(18,1),(33,2)] [] (fun _ u5=>Fa [(18,.fn (.func 416) 0 (fun _=>.junk))] []) (fun x GU Pg NK ht hu hp h=>?_) (fun f h=>?_)
            · refine bB ?_
              refine IJ 56 (fun r h=>aju ⟨aO,was,pY,O3,1,2,v1⟩ r h ((aj.len v)) Wy (mF 20)) fun v2 Ye=>?_
              refine Wk [] 0 [] Wz
            · refine Wx [] 0 [] Wz
      · revert h;refine bE 2 [] 0 [] (Wq ?_);intro h;intros
        refine bq h (uc+2) [(18,1),(22,1),(10,5)] [(16,1),(3,1),(20,1)] (fun Zt u6=>⟨[],[(16,.box (ctr+3) [.vec 20 (ctr+1) 1 0 (aj.len v),Li aj was,vi pY,vi O3,vi 1,vi 2,tF aj v1]),(20,Ri aj (ctr+1) (aj.len v) (u6.t 20) Zt)],fun _=>ah Zt=(ah v)⟩) (fun Zt Tc u6g ZH ht hu hp h=>?_) (fun f h=>?_)
        · try dsimp only at hp h
          refine Wx [] 0 [] Wz
        · refine Tr.block ?_
          refine bq h (uc+2) [(18,1),(33,2)] [] (fun _ u7=>Fa [(18,.fn (.func 415) 0 (fun _=>.junk))] []) (fun x u7c u7g u7t ht hu hp h=>?_) (fun f h=>?_)
          · refine bB ?_
            refine IJ 56 (fun r h=>amr ⟨v,was,pY,O3,1,2,v1⟩ r h ((aj.len v)) Wy (false)) fun v3 h32=>?_
            refine Wk [] 0 [(10,[.freeze (.cell 16 6)])] Wz
          · refine Wx [] 0 [] Wz
  · refine Wx [] 0 [] Wz

theorem Xi d' r' l' base r (h:JJ d' r' l' base=some r):Pf 267 [dZ aj d',Li aj r',Li aj l',vi base] (Ui aj r):=by
  unfold JJ at h
  refine bC Tryz.func267 fun ctr hc=>?_
  refine bB ?_
  refine Wo 25 0 (Sr l' base) fun v h1=>?_
  obtain ⟨q,_,_⟩:=v
  refine Wo 28 1 (jF q) fun v1 h2=>?_
  revert h;refine jI 3 [] 0 [] (Wq ?_);intro h;intros
  refine bq h (ctr+3) [(12,8),(9,58)] [(28,1),(3,1)] (fun out u=>⟨[],[(28,Ri aj (ctr+2) (aj.len v1) (u.t 28) out)],fun _=>ah out=(ah v1)⟩) (fun out uc ug ut ht hu hp h=>?_) (fun f h=>?_)
  · try dsimp only at hp h
    revert h;refine bE 1 [] 0 [] (Wq ?_);intro h;intros
    refine bq h (uc+1) [(20,3),(67,18)] [] (fun _ u1=>Fa [] []) (fun x cu fJ fE ht hu hp h=>?_) (fun f h=>?_)
    · refine Wx [] 0 [] Wz
    · revert h;refine bE 1 [] 0 [] (Wq ?_);intro h;intros
      refine Tr.block ?_
      refine dO h (uc+2) [(20,3),(70,15)] [] (fun (uO,v2) u2=>Fa [(20,vi uO),(93,vi v2)] []) bW (fun x jB ny mF f ht hu hp h=>?_)
      obtain ⟨_,_⟩:=x
      try dsimp only at hp h
      refine Wx [] 0 [] Wz
  · refine bB ?_
    refine Wi 32 1 h sB (Ph _ _ _) fun v3 h58=>?_
    revert h;refine jI 1 [] 0 [] (Wq ?_);intro h;intros
    refine Tr.block ?_
    refine dO h (ctr+4) [(12,8),(14,53)] [(28,1)] (fun (v4,aO) u3=>⟨[(34,vi v4)],[(28,Ri aj (ctr+2) (aj.len v1) (u3.t 28) aO)],fun _=>ah aO=(ah v1)⟩) bW (fun x nA vN vo f ht hu hp h=>?_)
    obtain ⟨v4,_⟩:=x
    try dsimp only at hp h
    revert h;refine bE 2 [] 0 [] (Wq ?_);intro h;intros
    refine bq h (nA+1) [(12,8),(16,50)] [(28,1),(39,1)] (fun jy u4=>⟨[],[(28,Ri aj (ctr+2) (aj.len v1) (u4.t 28) jy)],fun _=>ah jy=(ah v1)⟩) (fun jy sw EM DR ht hu hp h=>?_) (fun f h=>?_)
    · try dsimp only at hp h
      refine Wx [] 0 [] Wz
    · refine Tr.block ?_
      refine bB ?_
      refine Wi 41 0 h (sC sB) (Pj _ _) fun v5 ari=>?_
      refine Wi 54 0 h (sC (sK v5 (sC (sC sB)))) (Xj _ _ _ _) fun v6 arj=>?_
      obtain ⟨q3,q4⟩:=v6
      refine Wo 60 0 (Pj r' (au [] v3 (0+v4))) fun v7 ark=>?_
      refine Wo 64 0 (ZI v5 q3) fun v8 h122=>?_
      refine Wo 68 1 (Vw d' v7 v5 v8 (au 0 q (au 0 (au [] v3 (0+v4)) 0)) q3 q4) fun v9 arl=>?_
      revert h;refine jI 6 [] 0 [] (Wq ?_);intro h;intros
      refine Tr.block ?_
      refine dO h (nA+7) [(18,2),(51,15)] [(28,1)] (fun (v10,kD) u5=>⟨[(71,vi v10)],[(28,Ri aj (ctr+2) (aj.len v1) (u5.t 28) kD)],fun _=>ah kD=(ah v1)⟩) bW (fun x GU Pg NK f ht hu hp h=>?_)
      obtain ⟨_,_⟩:=x
      try dsimp only at hp h
      refine bB ?_
      refine Wi 83 0 h (sT (sC (sC sB))) (Ue _ _) fun v11 ajv=>?_
      refine Wk [] 0 [] Wz

theorem MB a b r (h:rE a b=some r):Pf 89 [Bq aj a,Bq aj b] (vb r):=by
  obtain ⟨_,_⟩:=a
  obtain ⟨_,_⟩:=b
  unfold rE at h
  try dsimp only at h
  refine bC Tryz.func89 fun ctr hc=>?_
  refine bB ?_
  refine mR 15 0 h sB (AR _ _) fun v h1=>?_
  refine Wk [] 0 [] Wz

theorem AU a b r (h:lZ a b=some r):Pf 47 [nO aj a,nO aj b] (vb r):=by
  obtain ⟨⟨q⟩,⟨_,_,_,_,⟨_,_,_⟩,⟨⟨_,_,_,_⟩,_,_,_⟩⟩,⟨_,_,_,_⟩,⟨_,_⟩,⟨_,_⟩,_,_⟩:=a
  obtain ⟨⟨AV⟩,⟨_,_,_,_,⟨_,_,_⟩,⟨⟨_,_,_,_⟩,_,_,_⟩⟩,⟨_,_,_,_⟩,⟨_,_⟩,⟨_,_⟩,_,_⟩:=b
  unfold lZ at h
  try dsimp only at h
  refine bC Tryz.func47 fun ctr hc=>?_
  refine bB ?_
  refine Wo 11 0 (AR q AV) fun v h1=>?_
  refine mR 31 0 h (sK v sB) (MC _ _) fun v1 h2=>?_
  refine mR 38 0 h (sK v (sK v1 sB)) (MB _ _) fun v2 h3=>?_
  refine Wk [] 0 [] Wz

theorem MG a b r (h:rF a b=some r):Pf 22 [oD aj a,oD aj b] (vb r):=by
  obtain ⟨⟨⟨_⟩,⟨_,_,_,_,⟨_,_,_⟩,⟨⟨_,_,_,_⟩,_,_,_⟩⟩,⟨_,_,_,_⟩,⟨_,_⟩,⟨_,_⟩,_,_⟩,⟨⟨_⟩,⟨_,_,_,_,⟨_,_,_⟩,⟨⟨_,_,_,_⟩,_,_,_⟩⟩,⟨_,_,_,_⟩,⟨_,_⟩,⟨_,_⟩,_,_⟩,_,⟨_⟩,⟨⟨_,_,_,_,⟨_,_,_⟩,⟨⟨_,_,_,_⟩,_,_,_⟩⟩,⟨_,_,_,_,⟨_,_,_⟩,⟨⟨_,_,_,_⟩,_,_,_⟩⟩⟩,_,_,_⟩:=a
  obtain ⟨⟨⟨_⟩,⟨_,_,_,_,⟨_,_,_⟩,⟨⟨_,_,_,_⟩,_,_,_⟩⟩,⟨_,_,_,_⟩,⟨_,_⟩,⟨_,_⟩,_,_⟩,⟨⟨_⟩,⟨_,_,_,_,⟨_,_,_⟩,⟨⟨_,_,_,_⟩,_,_,_⟩⟩,⟨_,_,_,_⟩,⟨_,_⟩,⟨_,_⟩,_,_⟩,_,⟨_⟩,⟨⟨_,_,_,_,⟨_,_,_⟩,⟨⟨_,_,_,_⟩,_,_,_⟩⟩,⟨_,_,_,_,⟨_,_,_⟩,⟨⟨_,_,_,_⟩,_,_,_⟩⟩⟩,_,_,_⟩:=b
  unfold rF at h
  try dsimp only at h
  refine bC Tryz.func22 fun ctr hc=>?_
  refine bB ?_
  refine Wi 9 0 h sB (AU _ _) fun v h1=>?_
  refine mR 15 0 h (sK v sB) (AU _ _) fun v1 h2=>?_
  refine Wk [] 0 [] Wz

end Go.Vx
