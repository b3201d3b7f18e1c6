/- Walks, by program (lift5.py): the code does what the lifted functions say. -/
import Derived.Test.YtckmalogclklmaaGreatDoorTHead
import Derived.Test.YtckmalogclklmaaGreatDoorTDg
import Derived.Test.YtckmalogclklmaaGreatDoorTSd
import Derived.Test.YtckmalogclklmaaGreatDoorTCh
set_option linter.all false
namespace Go.Vx
open Go.Proofs
set_option maxRecDepth 100000
set_option maxHeartbeats 8000000
set_option linter.unusedVariables false
set_option linter.unusedSimpArgs false
attribute [local irreducible] chk ay av aM lI

theorem G6 s c' r (h:stringslite_IndexByte s c'=some r):Pf 206 [vs s,vu c'] (vi r):=by
  unfold stringslite_IndexByte at h
  refine bC Tryz.func206 fun ctr hc=>?_
  refine bB ?_
  refine Woe 7 0 (Ef s c') fun v h1=>?_
  refine Wk [] 0 [] Wz

theorem Uh s substr r (h:strings_Count s substr=some r):Pf 155 [vs s,vs substr] (vi r):=by
  unfold strings_Count at h
  refine bC Tryz.func155 fun ctr hc=>?_
  refine bB ?_
  refine Woe 19 0 (Jv s (lC substr 0)) fun v h2=>?_
  refine Wkp 4 [] 0 [] Wz

theorem G7 a0 r (h:zy a0=some r):Pf 346 [vs a0] (vb r):=by cases h

theorem SF s r (h:strings_Fields s=some r):Pf 64 [vs s] (Us aj r):=by
  unfold strings_Fields at h
  refine bC Tryz.func64 fun ctr hc=>?_
  revert h;refine bE 4 [] 0 [] (Wq ?_);intro h;intros
  refine bq h (ctr+4) [(3,6),(4,23)] [] (fun (n,setBits) u=>Fa [(3,vi n),(5,vu setBits)] []) (fun x uc ug ut ht hu hp h=>?_) (fun f h=>?_)
  · obtain ⟨n,_⟩:=x
    try dsimp only at hp h
    revert h;refine bE 5 [] 0 [] (Wq ?_);intro h;intros
    refine bq h (uc+5) [(12,1),(29,14)] [(41,1)] (fun _ u1=>Fa [(12,vi 0)] [(41,Rs aj (uc+1) n (u1.t 41) (aj.rep n ByteArray.empty))]) (fun x cu fJ fE ht hu hp h=>?_) (fun f h=>?_)
    · revert h;refine bE 1 [] 0 [] (Wq ?_);intro h;intros
      refine bq h (cu+1) [(10,3),(44,38)] [(41,1)] (fun (na,fieldStart,a) u2=>⟨[(10,vi na),(11,vi fieldStart)],[(41,Rs aj (uc+1) n (u2.t 41) a)],fun _=>ah a=n⟩) (fun x jB ny mF ht hu hp h=>?_) (fun f h=>?_)
      · obtain ⟨_,_,_⟩:=x
        try dsimp only at hp h
        refine Wx [] 0 [] Wz
      · refine Tr.block ?_
        refine dO h (cu+1) [(10,3),(44,38)] [(41,1)] (fun (NI,lH,i,a1) u3=>⟨[(10,vi NI),(11,vi lH),(12,vi i)],[(41,Rs aj (uc+1) n (u3.t 41) a1)],fun _=>ah a1=n⟩) bW (fun x nA vN vo f ht hu hp h=>?_)
        obtain ⟨NI,lH,i,a1⟩:=x
        try dsimp only at hp h
        revert h;refine bE 1 [] 0 [] (Wq ?_);intro h;intros
        refine Tr.block ?_
        revert h;refine bE 4 [] 0 [] (Wq ?_);intro h;intros
        refine bq h (nA+5) [(12,1),(67,14)] [(41,1)] (fun _ u4=>Fa [(12,vi ((std Tryz.prog).add i 1))] [(41,Rs aj (uc+1) n (u4.t 41) (aj.set a1 NI ((std Tryz.prog).Z4 s lH i)))]) (fun x sw EM DR ht hu hp h=>?_) (fun f h=>?_)
        · refine Wx [] 0 [] Wz
        · refine Tr.block ?_
          refine dO h (nA+5) [(12,1),(67,14)] [(41,1)] (fun _ u5=>Fa [(12,vi ((std Tryz.prog).add i 1))] [(41,Rs aj (uc+1) n (u5.t 41) (aj.set a1 NI ((std Tryz.prog).Z4 s lH i)))]) bW (fun x GU Pg NK f ht hu hp h=>?_)
          refine Wx [] 0 [] Wz
    · refine Tr.block ?_
      refine dO h (uc+5) [(12,1),(29,14)] [(41,1)] (fun _ u6=>Fa [(12,vi 0)] [(41,Rs aj (uc+1) n (u6.t 41) (aj.rep n ByteArray.empty))]) bW (fun x Tc u6g ZH f ht hu hp h=>?_)
      refine Wx [] 0 [] Wz
  · revert h;refine bE 1 [] 0 [] (Wq ?_);intro h;intros
    refine Tr.block ?_
    refine dO h (ctr+5) [(3,6),(4,23)] [] (fun (n1,wasSpace,LC,i3) u7=>Fa [(3,vi n1),(4,vi wasSpace),(5,vu LC),(6,vi i3)] []) bW (fun x u7c u7g u7t f ht hu hp h=>?_)
    obtain ⟨_,_,_,_⟩:=x
    try dsimp only at hp h
    refine Wx [] 0 [] Wz

theorem VD s r (h:Gg s=some r):Pf 29 [vs s] (vi r):=by
  unfold Gg at h
  refine bC Tryz.func29 fun ctr hc=>?_
  refine Wx [] 0 [] Wz

theorem NP w r (h:EX w=some r):Pf 130 [vi w] (vi r):=by
  unfold EX at h
  refine bC Tryz.func130 fun ctr hc=>?_
  refine Wx [] 0 [] Wz

theorem IX bits r (h:rX bits=some r):Pf 74 [vi bits] (vb r):=by
  unfold rX at h
  refine bC Tryz.func74 fun ctr hc=>?_
  refine Wx [] 0 [] Wz

theorem QC which r (h:vJ which=some r):Pf 121 [vi which] (vb r):=by
  unfold vJ at h
  refine bC Tryz.func121 fun ctr hc=>?_
  refine Wx [] 0 [] Wz

theorem Ti l' i r (h:BX l' i=some r):Pf 171 [lQ aj l',vi i] (vb r):=by
  unfold BX at h
  refine bC Tryz.func171 fun ctr hc=>?_
  refine Wx [] 0 [] Wz

theorem jX s r (h:iX s=some r):Pf 10 [dF aj s] (gJ aj r):=by
  obtain ⟨⟨⟨_⟩,⟨_,_,_,_,⟨_,_,_⟩,⟨⟨_,_,_,_⟩,_,_,_⟩⟩,⟨_,_,_,_⟩,⟨_,_⟩,⟨_,_⟩,_,_⟩,⟨⟨_⟩,⟨_,_,_,_,⟨_,_,_⟩,⟨⟨_,_,_,_⟩,_,_,_⟩⟩,⟨_,_,_,_⟩,⟨_,_⟩,⟨_,_⟩,_,_⟩,_,⟨_⟩,⟨⟨_,_,_,_,⟨_,_,_⟩,⟨⟨_,_,_,_⟩,_,_,_⟩⟩,⟨_,_,_,_,⟨_,_,_⟩,⟨⟨_,_,_,_⟩,_,_,_⟩⟩⟩,_,_,_⟩:=s
  unfold iX at h
  try dsimp only at h
  refine bC Tryz.func10 fun ctr hc=>?_
  refine Wx [] 0 [] Wz

theorem Sz s r (h:BZ s=some r):Pf 182 [gW aj s] (vb r):=by
  obtain ⟨_,_,_,⟨_,_⟩,_,_⟩:=s
  unfold BZ at h
  try dsimp only at h
  refine bC Tryz.func182 fun ctr hc=>?_
  refine Wx [] 0 [] Wz

theorem VX r' r (h:Gm r'=some r):Pf 184 [vi r'] (Ov aj r):=by
  unfold Gm at h
  refine bC Tryz.func184 fun ctr hc=>?_
  refine Wx [] 0 [] Wz

theorem SG s c' r (h:Cb s c'=some r):Pf 279 [gW aj s,vu c'] (.gX 2 (fun j=>match j with | 0=>(gW aj r.1) | 1=>(rR aj r.2) | _=>.junk)):=by
  obtain ⟨_,_,_,⟨_,_⟩,_,_⟩:=s
  unfold Cb at h
  try dsimp only at h
  refine bC Tryz.func279 fun ctr hc=>?_
  refine Wx [17,999] 0 [] Wz

theorem SH i r (h:Ce i=some r):Pf 337 [vi i] (vs r):=by
  unfold Ce at h
  refine bC Tryz.func337 fun ctr hc=>?_
  refine Wx [] 0 [] Wz

theorem IL r' r (h:AB r'=some r):Pf 160 [jS aj r'] (.gX 2 (fun j=>match j with | 0=>(Li aj r.1) | 1=>(Li aj r.2) | _=>.junk)):=by
  obtain ⟨_,_,_,_⟩:=r'
  unfold AB at h
  try dsimp only at h
  refine bC Tryz.func160 fun ctr hc=>?_
  revert h;refine bE 2 [] 0 [] (Wq ?_);intro h;intros
  refine bq h (ctr+2) [(4,2),(1,26)] [(26,1),(4,1)] (fun (out,widths) u=>Fa [(4,.vec 26 (u.g 26) 1 0 (aj.len out)),(5,.vec 31 (u.g 31) 1 0 (aj.len widths))] [(26,Ri aj (u.g 26) (aj.len out) (u.t 26) out),(31,Ri aj (u.g 31) (aj.len widths) (u.t 31) widths)]) (fun x uc ug ut ht hu hp h=>?_) (fun f h=>?_)
  · obtain ⟨_,_⟩:=x
    try dsimp only at hp h
    refine Wx [] 0 [] Wz
  · revert h;refine bE 1 [] 0 [] (Wq ?_);intro h;intros
    refine Tr.block ?_
    refine dO h (ctr+3) [(4,2),(1,2),(3,21)] [(7,1),(18,1),(4,1)] (fun (v,aO,uS) u1=>Fa [(4,.vec 26 (u1.g 26) 1 0 (aj.len aO)),(5,.vec 31 (u1.g 31) 1 0 (aj.len uS)),(12,vi v)] [(26,Ri aj (u1.g 26) (aj.len aO) (u1.t 26) aO),(31,Ri aj (u1.g 31) (aj.len uS) (u1.t 31) uS)]) bW (fun x cu fJ fE f ht hu hp h=>?_)
    obtain ⟨_,_,_⟩:=x
    try dsimp only at hp h
    refine Wx [25,30] 0 [] Wz

theorem CJ l' r (h:yj l'=some r):Pf 351 [Li aj l'] (Ui aj r):=by
  unfold yj at h
  refine bC Tryz.func351 fun ctr hc=>?_
  revert h;refine bE 3 [] 0 [] (Wq ?_);intro h;intros
  refine bq h (ctr+3) [(5,2),(3,39)] [(9,1)] (fun out u=>⟨[],[(9,Ri aj (ctr+1) (aj.len l') (u.t 9) out)],fun _=>ah out=(ah l')⟩) (fun out uc ug ut ht hu hp h=>?_) (fun f h=>?_)
  · try dsimp only at hp h
    refine Wx [] 0 [] Wz
  · revert h;refine bE 1 [] 0 [] (Wq ?_);intro h;intros
    refine Tr.block ?_
    refine dO h (ctr+4) [(5,2),(5,37)] [(9,1)] (fun (v,aO) u1=>⟨[(12,vi v)],[(9,Ri aj (ctr+1) (aj.len l') (u1.t 9) aO)],fun _=>ah aO=(ah l')⟩) bW (fun x cu fJ fE f ht hu hp h=>?_)
    obtain ⟨v,aO⟩:=x
    try dsimp only at hp h
    revert h;refine bE 2 [] 0 [] (Wq ?_);intro h;intros
    refine bq h (cu+1) [(5,2),(7,34)] [(9,1)] (fun _ u2=>Fa [] [(9,Ri aj (ctr+1) (aj.len l') (u2.t 9) (aj.set aO v (-1)))]) (fun x jB ny mF ht hu hp h=>?_) (fun f h=>?_)
    · refine Wx [] 0 [] Wz
    · refine Tr.block ?_
      revert h;refine bE 3 [] 0 [] (Wq ?_);intro h;intros
      refine Tr.block ?_
      refine bq h (cu+4) [(21,4)] [(9,1)] (fun v1 u3=>Fa [(21,vb v1)] [(9,Ri aj (ctr+1) (aj.len l') (u3.t 9) (aj.set aO v (-1)))]) (fun v1 nA vN vo ht hu hp h=>?_) (fun f h=>?_)
      · refine Wx [] 0 [] Wz
      · refine Wx [] 0 [] Wz

theorem acZ s x' r (h:Xa s x'=some r)   : jc Tryz.prog 403 [.dI 0 0 0,JZ aj x'] [.box 0 [.vec 1 0 3 0 (aj.len s.fl)],lg aj 0 (aj.len s.fl) false s.fl] [.box 0 [.vec 1 1 3 0 (aj.len r.fl)],lg aj 1 (aj.len r.fl) false r.fl] (.gX 0 (fun _=>.junk)):=by
  obtain ⟨_⟩:=s
  unfold Xa at h
  try dsimp only at h
  refine Il Tryz.func403 (mH Tryz.f403) fun ctr hc=>?_
  refine Wx [10] 2 [] Wz

theorem jF s r (h:iI s=some r):Pf 262 [Li aj s] (Ui aj r):=by
  unfold iI at h
  refine bC Tryz.func262 fun ctr hc=>?_
  revert h;refine bE 1 [] 0 [] (Wq ?_);intro h;intros
  refine al4 42 0 3 4 h (ctr+1) [(2,3)] [] (fun _ u=>Fa [] []) (fun x uc ug ut ht hu hp h=>?_) (fun _ f h=>?_) (fun f h=>?_)
  · refine Wx [5,7] 0 [] Wz
  · refine Wx [] 0 [] Wz
  · refine Wx [] 0 [] Wz

theorem G8 c' r (h:yL c'=some r):Pf 412 [vi c'] (vb r):=by
  unfold yL at h
  refine bC Tryz.func412 fun ctr hc=>?_
  refine Wx [] 0 [] Wz

theorem YM level r (h:Fb level=some r):Pf 413 [vi level] (vi r):=by
  unfold Fb at h
  refine bC Tryz.func413 fun ctr hc=>?_
  refine Wx [] 0 [] Wz

theorem amv t' r (h:w1 t'=some r) (jd:Int) (wY:ah t'.fl=jd) (l8:Bool):jc Tryz.prog 417 [.agg 2 (fun j=>match j with | 0=>.vec 0 0 1 0 jd | 1=>vi t'.xE | _=>.junk)] [Ri aj 0 jd l8 t'.fl] [Ri aj 0 jd l8 r] (.gX 0 (fun _=>.junk)):=by
  obtain rfl:aj.len t'.fl=jd:=wY
  obtain ⟨q,_⟩:=t'
  unfold w1 at h
  try dsimp only at h
  refine Il Tryz.func417 (mH Tryz.f417) fun ctr hc=>?_
  revert h;refine bE 3 [] 1 [] (Wq ?_);intro h;intros
  refine Tr.block ?_
  refine dO h (ctr+3) [(2,3),(5,24)] [] (fun (uO,v) u=>Fa [(2,vi uO),(10,vi v)] []) bW (fun x uc ug ut f ht hu hp h=>?_)
  obtain ⟨_,v⟩:=x
  try dsimp only at hp h
  revert h;refine bE 2 [] 1 [] (Wq ?_);intro h;intros
  refine bq h (uc+1) [(2,3),(7,21)] [] (fun _ u1=>Fa [(2,vi (aj.get 0 q ((std Tryz.prog).add 0 v)))] []) (fun x cu fJ fE ht hu hp h=>?_) (fun f h=>?_)
  · refine Wx [] 1 [] Wz
  · refine Tr.block ?_
    revert h;refine bE 1 [] 1 [] (Wq ?_);intro h;intros
    refine bq h (uc+2) [(15,7)] [] (fun _ u2=>Fa [] []) (fun x jB ny mF ht hu hp h=>?_) (fun f h=>?_)
    · refine Wx [] 1 [] Wz
    · refine Wx [] 1 [] Wz

theorem amw t' r (h:w3 t'=some r) (jd:Int) (wY:ah t'.fl=jd) (l8:Bool):jc Tryz.prog 419 [.agg 2 (fun j=>match j with | 0=>.vec 0 0 1 0 jd | 1=>vi t'.xE | _=>.junk)] [Ri aj 0 jd l8 t'.fl] [Ri aj 0 jd l8 r] (.gX 0 (fun _=>.junk)):=by
  obtain rfl:aj.len t'.fl=jd:=wY
  obtain ⟨_,_⟩:=t'
  unfold w3 at h
  try dsimp only at h
  refine Il Tryz.func419 (mH Tryz.f419) fun ctr hc=>?_
  revert h;refine bE 2 [] 1 [] (Wq ?_);intro h;intros
  refine Tr.block ?_
  refine dO h (ctr+2) [(2,2),(3,12)] [] (fun v u=>Fa [(7,vi v)] []) bW (fun v uc ug ut f ht hu hp h=>?_)
  refine Wx [] 1 [] Wz

theorem G9 t' i r (h:yM t' i=some r):Pf 441 [aaV aj t',vi i] (vi r):=by
  obtain ⟨_,_⟩:=t'
  unfold yM at h
  try dsimp only at h
  refine bC Tryz.func441 fun ctr hc=>?_
  refine Wx [] 0 [] Wz

theorem amx t' r (h:w5 t'=some r) (jd:Int) (wY:ah t'.fl=jd) (l8:Bool):jc Tryz.prog 421 [.agg 2 (fun j=>match j with | 0=>.vec 0 0 1 0 jd | 1=>vi t'.xE | _=>.junk)] [Ri aj 0 jd l8 t'.fl] [Ri aj 0 jd l8 r] (.gX 0 (fun _=>.junk)):=by
  obtain rfl:aj.len t'.fl=jd:=wY
  obtain ⟨_,_⟩:=t'
  unfold w5 at h
  try dsimp only at h
  refine Il Tryz.func421 (mH Tryz.f421) fun ctr hc=>?_
  revert h;refine bE 2 [] 1 [] (Wq ?_);intro h;intros
  refine Tr.block ?_
  refine dO h (ctr+2) [(2,45)] [] (fun i u=>Fa [(2,vi i)] []) bW (fun i uc ug ut f ht hu hp h=>?_)
  revert h;refine bE 1 [] 1 [] (Wq ?_);intro h;intros
  refine Tr.block ?_
  refine Zk 2 [] 1 [] Wz

theorem amy t' r (h:w6 t'=some r) (jd:Int) (wY:ah t'.fl=jd) (l8:Bool):jc Tryz.prog 422 [.agg 2 (fun j=>match j with | 0=>.vec 0 0 1 0 jd | 1=>vi t'.xE | _=>.junk)] [Ri aj 0 jd l8 t'.fl] [Ri aj 0 jd l8 r] (.gX 0 (fun _=>.junk)):=by
  obtain rfl:aj.len t'.fl=jd:=wY
  obtain ⟨_,_⟩:=t'
  unfold w6 at h
  try dsimp only at h
  refine Il Tryz.func422 (mH Tryz.f422) fun ctr hc=>?_
  revert h;refine bE 2 [] 1 [] (Wq ?_);intro h;intros
  refine Tr.block ?_
  refine dO h (ctr+2) [(2,2),(3,15)] [] (fun v u=>Fa [(7,vi v)] []) bW (fun v uc ug ut f ht hu hp h=>?_)
  refine Wx [] 1 [] Wz

theorem Vy a0 a1 a2 r (h:O4 a0 a1 a2=some r):Pf 362 [dZ aj a0,Li aj a1,vi a2] (vi r):=by cases h

theorem ZJ d' r' which r (h:O5 d' r' which=some r):Pf 269 [dZ aj d',vi r',vi which] (vi r):=by
  obtain ⟨⟨_⟩,⟨_⟩,⟨_⟩,_,_,_⟩:=d'
  unfold O5 at h
  try dsimp only at h
  refine bC Tryz.func269 fun ctr hc=>?_
  revert h;refine bE 2 [] 0 [] (Wq ?_);intro h;intros
  refine bq h (ctr+2) [(6,1),(1,1),(7,37)] [] (fun _ u=>Fa [] []) (fun x uc ug ut ht hu hp h=>?_) (fun f h=>?_)
  · refine Wx [] 0 [] Wz
  · revert h;refine bE 1 [] 0 [] (Wq ?_);intro h;intros
    refine Tr.block ?_
    refine dO h (ctr+3) [(6,1),(1,1),(10,34)] [(8,1)] (fun v u1=>Fa [(19,vi v)] []) bW (fun v cu fJ fE f ht hu hp h=>?_)
    refine Wx [] 0 [] Wz

theorem VA d' r' level boxes r (h:Gv d' r' level boxes=some r):Pf 270 [dZ aj d',vi r',vi level,vb boxes] (vi r):=by
  unfold Gv at h
  refine bC Tryz.func270 fun ctr hc=>?_
  refine Wx [] 0 [] Wz

theorem VY levels r (h:Gy levels=some r):Pf 349 [Li aj levels] (Ui aj r):=by
  unfold Gy at h
  refine bC Tryz.func349 fun ctr hc=>?_
  revert h;refine bE 4 [] 0 [] (Wq ?_);intro h;intros
  refine bq h (ctr+4) [(5,4),(9,28)] [(14,1),(2,1)] (fun (most,l',out) u=>⟨[(5,vi most),(6,vi 128)],[(14,Ri aj (ctr+1) (aj.len levels) (u.t 14) l'),(17,Ri aj (ctr+2) (aj.len levels) (u.t 17) out)],fun _=>ah l'=(ah levels)∧ah out=(ah levels)⟩) (fun x uc ug ut ht hu hp h=>?_) (fun f h=>?_)
  · obtain ⟨most,_,_⟩:=x
    try dsimp only at hp h
    refine bq h uc [(9,3),(34,32)] [] (fun _ u1=>Fa [] []) (fun x cu fJ fE ht hu hp h=>?_) (fun f h=>?_)
    · refine Wx [] 0 [] Wz
    · revert h;refine bE 1 [] 0 [] (Wq ?_);intro h;intros
      refine Tr.block ?_
      refine dO h (uc+1) [(9,3),(35,31)] [] (fun _ u2=>Fa [(9,vi most)] []) bW (fun x jB ny mF f ht hu hp h=>?_)
      refine Zk 1 [] 0 [] Wz
  · revert h;refine bE 1 [] 0 [] (Wq ?_);intro h;intros
    refine Tr.block ?_
    refine dO h (ctr+5) [(5,4),(11,26)] [(14,1),(2,1)] (fun (Y2,v,gG,aO) u3=>⟨[(5,vi Y2),(6,vi 128),(20,vi v)],[(14,Ri aj (ctr+1) (aj.len levels) (u3.t 14) gG),(17,Ri aj (ctr+2) (aj.len levels) (u3.t 17) aO)],fun _=>ah gG=(ah levels)∧ah aO=(ah levels)⟩) bW (fun x nA vN vo f ht hu hp h=>?_)
    obtain ⟨_,_,_,_⟩:=x
    try dsimp only at hp h
    refine Wx [] 0 [] Wz

theorem VZ l' r (h:Gz l'=some r):Pf 259 [Li aj l'] (.gX 2 (fun j=>match j with | 0=>(Li aj r.1) | 1=>(vb r.2) | _=>.junk)):=by
  unfold Gz at h
  refine bC Tryz.func259 fun ctr hc=>?_
  revert h;refine bE 2 [] 0 [] (Wq ?_);intro h;intros
  refine bq h (ctr+2) [(5,1),(5,9)] [(10,1)] (fun out u=>⟨[],[(10,Ri aj (ctr+1) (aj.len l') (u.t 10) out)],fun _=>ah out=(ah l')⟩) (fun out uc ug ut ht hu hp h=>?_) (fun f h=>?_)
  · try dsimp only at hp h
    refine bq h uc [(2,2),(2,2),(12,27)] [(10,1)] (fun aO u1=>⟨[],[(10,Ri aj (ctr+1) (aj.len l') (u1.t 10) aO)],fun _=>ah aO=(ah l')⟩) (fun aO cu fJ fE ht hu hp h=>?_) (fun f h=>?_)
    · try dsimp only at hp h
      refine Wx [] 0 [] Wz
    · revert h;refine bE 1 [] 0 [] (Wq ?_);intro h;intros
      refine Tr.block ?_
      refine dO h (uc+1) [(2,2),(2,2),(14,25)] [(10,1)] (fun (v,jy) u2=>⟨[(22,vi v)],[(10,Ri aj (ctr+1) (aj.len l') (u2.t 10) jy)],fun _=>ah jy=(ah l')⟩) bW (fun x jB ny mF f ht hu hp h=>?_)
      obtain ⟨_,_⟩:=x
      try dsimp only at hp h
      refine Wx [] 0 [] Wz
  · revert h;refine bE 1 [] 0 [] (Wq ?_);intro h;intros
    refine Tr.block ?_
    refine dO h (ctr+3) [(5,1),(7,7)] [(10,1)] (fun (v1,kD) u3=>⟨[(13,vi v1)],[(10,Ri aj (ctr+1) (aj.len l') (u3.t 10) kD)],fun _=>ah kD=(ah l')⟩) bW (fun x nA vN vo f ht hu hp h=>?_)
    obtain ⟨_,_⟩:=x
    try dsimp only at hp h
    refine Wx [] 0 [] Wz

theorem uX c' r (h:pG c'=some r):Pf 36 [zn aj c'] (kG aj r):=by
  unfold pG at h
  refine bC Tryz.func36 fun ctr hc=>?_
  refine Wx [] 0 [] Wz

end Go.Vx
