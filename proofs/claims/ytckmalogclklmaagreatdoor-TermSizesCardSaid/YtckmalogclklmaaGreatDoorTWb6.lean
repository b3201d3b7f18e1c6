/- Walks, by program (lift5.py): the code does what the lifted functions say. -/
import Derived.Test.YtckmalogclklmaaGreatDoorTHead
import Derived.Test.YtckmalogclklmaaGreatDoorTWb2
import Derived.Test.YtckmalogclklmaaGreatDoorTWb3
import Derived.Test.YtckmalogclklmaaGreatDoorTWb4
import Derived.Test.YtckmalogclklmaaGreatDoorTDg
import Derived.Test.YtckmalogclklmaaGreatDoorTSd
import Derived.Test.YtckmalogclklmaaGreatDoorTCh
set_option linter.all false
namespace Go.Vx
open Go.Proofs
set_option maxRecDepth 100000
set_option maxHeartbeats 8000000
set_option linter.unusedVariables false
set_option linter.unusedSimpArgs false
attribute [local irreducible] chk ay av aM lI

theorem Hg s r (h:rW s=some r):Pf 105 [vs s,.fn (.func 106) 0 (fun _=>.junk)] (Us aj r):=by
  unfold rW at h
  refine bC Tryz.func105 fun ctr hc=>?_
  revert h;refine bE 3 [] 0 [] (Wq ?_);intro h;intros
  refine bq h (ctr+3) [(5,4),(4,22)] [(12,1),(1,1)] (fun (start,spans) u=>Fa [(5,.vec 12 (u.g 12) 2 0 (aj.len spans)),(6,vi start)] [(12,BP aj (u.g 12) (aj.len spans) (u.t 12) spans)]) (fun x uc ug ut ht hu hp h=>?_) (fun f h=>?_)
  · obtain ⟨_,_⟩:=x
    try dsimp only at hp h
    refine bq h uc [(5,1),(29,9)] [(12,1),(30,1)] (fun kP u1=>Fa [(5,.vec 12 (u1.g 12) 2 0 (aj.len kP))] [(12,BP aj (u1.g 12) (aj.len kP) (u1.t 12) kP)]) (fun kP cu fJ fE ht hu hp h=>?_) (fun f h=>?_)
    · revert h;refine bE 1 [] 0 [] (Wq ?_);intro h;intros
      refine bq h (cu+1) [(10,2),(35,17)] [(46,1)] (fun a u2=>⟨[],[(46,Rs aj (cu+0) (aj.len kP) (u2.t 46) a)],fun _=>ah a=(ah kP)⟩) (fun a jB ny mF ht hu hp h=>?_) (fun f h=>?_)
      · try dsimp only at hp h
        refine Wx [] 0 [] Wz
      · revert h;refine bE 1 [] 0 [] (Wq ?_);intro h;intros
        refine Tr.block ?_
        refine dO h (cu+2) [(10,2),(37,15)] [(11,1),(34,1)] (fun (v,a1) u3=>⟨[(49,vi v)],[(46,Rs aj (cu+0) (aj.len kP) (u3.t 46) a1)],fun _=>ah a1=(ah kP)⟩) bW (fun x nA vN vo f ht hu hp h=>?_)
        obtain ⟨_,_⟩:=x
        try dsimp only at hp h
        refine Wx [] 0 [] Wz
    · refine Wx [42] 0 [] Wz
  · revert h;refine bE 1 [] 0 [] (Wq ?_);intro h;intros
    refine Tr.block ?_
    refine dO h (ctr+4) [(5,4),(6,20)] [(12,1),(1,1),(14,1)] (fun (Aq,xW,pos) u4=>Fa [(5,.vec 12 (u4.g 12) 2 0 (aj.len xW)),(6,vi Aq)] [(12,BP aj (u4.g 12) (aj.len xW) (u4.t 12) xW),(14,.iter (ctr+3) s pos)]) bW (fun x sw EM DR f ht hu hp h=>?_)
    obtain ⟨_,_,_⟩:=x
    try dsimp only at hp h
    refine bB ?_
    refine Wi 21 0 h (sT sB) (XB _) fun v1 h33=>?_
    refine Wk [28] 0 [] Wz

theorem wE e r (h:vT e=some r):Pf 62 [vs e] (Us aj r):=by
  unfold vT at h
  refine bC Tryz.func62 fun ctr hc=>?_
  refine bB ?_
  refine Wo 4 1 (Hg e) fun v h1=>?_
  refine Wk [] 0 [] Wz

theorem Uj s r (h:Eh s=some r):Pf 27 [vs s] (vi r):=by
  unfold Eh at h
  refine bC Tryz.func27 fun ctr hc=>?_
  revert h;refine bE 1 [] 0 [] (Wq ?_);intro h;intros
  refine bq h (ctr+1) [(2,16)] [(5,1)] (fun _ u=>Fa [] []) (fun x uc ug ut ht hu hp h=>?_) (fun f h=>?_)
  · cases h
  · refine bB ?_
    refine Wo 5 1 (SF kS0) fun v h8=>?_
    revert h;refine jI 1 [] 0 [] (Wq ?_);intro h;intros
    refine Tr.block ?_
    refine dO h (ctr+2) [(2,3),(2,11)] [] (fun v1 u1=>Fa [(7,vi v1)] []) bW (fun v1 cu fJ fE f ht hu hp h=>?_)
    refine Wx [] 0 [] Wz

theorem ac1 l' jU oF p' r (h:J8 l' jU oF p'=some r) (AX:Int) (ag6:ah l'=AX) (l8:Bool):jc Tryz.prog 128 [.vec 0 0 7 jU oF,zm aj p'] [kS aj 0 AX l8 l'] [kS aj 0 AX l8 r] (.gX 0 (fun _=>.junk)):=by
  unfold J8 at h
  refine Il Tryz.func128 (mH Tryz.f128) fun ctr hc=>?_
  replace h:=dQ h;obtain ⟨h10,h⟩:=h
  revert h;refine bE 2 [] 1 [] (Wq ?_);intro h;intros
  refine Tr.block ?_
  refine dO h (ctr+2) [(4,1),(2,9)] [(0,1)] (fun (v,gG) u=>⟨[(7,vi v)],[(0,kS aj (0) AX (l8) gG)],fun _=>ah gG=AX⟩) bW (fun x uc ug ut f ht hu hp h=>?_)
  obtain ⟨_,_⟩:=x
  try dsimp only at hp h
  refine bB ?_
  refine Wo 14 0 (QD p') fun v1 h7=>?_
  refine Wk [] 1 [] Wz

theorem MH w p' r (h:wT w p'=some r):Pf 85 [vi w,zm aj p'] (.uq 0 4 (fun j=>(bU aj r j)) 7 (aj.len r.aH) false (fun ix jx=>(dM aj (aj.get aD r.aH ix) jx))):=by
  unfold wT at h
  refine bC Tryz.func85 fun ctr hc=>?_
  refine bB ?_
  refine Wo 7 0 (ZY w) fun v1 h5=>?_
  refine Wkc 2 [] 0 [] h ctr [(3,6)] [(3,2),(3,1)] (fun l' u=>Fa [(3,.dI 3 (u.g 3) 0),(4,.dI 4 (u.g 4) 0),(5,.vec 8 (u.g 8) 7 0 (aj.len l'))] [(3,.box (u.g 3) [vi p'.jP,vi p'.jQ,vi p'.dU]),(4,.box (u.g 4) [.cO,vb false,vi 0,vb false]),(8,kS aj (u.g 8) (aj.len l') (u.t 8) l')]) (fun l' uc ug ut ht hu hp h=>?_) (fun f h=>Wz)
  refine bB ?_
  refine IJ 11 (fun r h=>ac1 l' 0 (ah l') p' r h ((aj.len l')) Wy (ut 8)) fun v h3=>?_
  refine Wk [] 0 [] Wz

theorem Tf w r (h:LD w=some r):Pf 129 [vi w] (vO aj r):=by
  unfold LD at h
  refine bC Tryz.func129 fun ctr hc=>?_
  refine bB ?_
  refine Wo 6 0 (NP w) fun v h1=>?_
  revert h;refine jI 2 [] 0 [] (Wq ?_);intro h;intros
  refine bq h (ctr+2) [(4,1),(3,12)] [(3,1),(14,1)] (fun o u=>Fa [] [(3,.box (ctr+1) [.vec 18 (u.g 18) 1 0 (aj.len o),vi v]),(18,Ri aj (u.g 18) (aj.len o) (u.t 18) o)]) (fun o uc ug ut ht hu hp h=>?_) (fun f h=>?_)
  · refine Wx [] 0 [] Wz
  · revert h;refine bE 1 [] 0 [] (Wq ?_);intro h;intros
    refine Tr.block ?_
    refine dO h (ctr+3) [(4,1),(3,12)] [(3,1),(14,1)] (fun (at',o1) u1=>Fa [(4,vi at')] [(3,.box (ctr+1) [.vec 18 (u1.g 18) 1 0 (aj.len o1),vi v]),(18,Ri aj (u1.g 18) (aj.len o1) (u1.t 18) o1)]) bW (fun x cu fJ fE f ht hu hp h=>?_)
    obtain ⟨_,_⟩:=x
    try dsimp only at hp h
    refine Wx [17] 0 [] Wz

theorem UC s c' r (h:Ej s c'=some r):Pf 277 [gW aj s,vu c'] (.gX 2 (fun j=>match j with | 0=>(gW aj r.1) | 1=>(rR aj r.2) | _=>.junk)):=by
  unfold Ej at h
  refine bC Tryz.func277 fun ctr hc=>?_
  refine bB ?_
  refine Wo 19 0 (SG s c') fun v h1=>?_
  obtain ⟨⟨_,_,_,⟨_,_⟩,_,_⟩,_⟩:=v
  refine Wo 42 0 (U3 s.eu c') fun v1 h2=>?_
  refine Wk [] 0 [] Wz

theorem Uk s c' r (h:Em s c'=some r):Pf 185 [gW aj s,vu c'] (.gX 2 (fun j=>match j with | 0=>(gW aj r.1) | 1=>(rR aj r.2) | _=>.junk)):=by
  obtain ⟨_,_,_,⟨_,_⟩,_,_⟩:=s
  unfold Em at h
  try dsimp only at h
  refine bC Tryz.func185 fun ctr hc=>?_
  revert h;refine bE 1 [] 0 [] (Wq ?_);intro h;intros
  refine bq h (ctr+1) [(5,43)] [] (fun _ u=>Fa [] []) (fun x uc ug ut ht hu hp h=>?_) (fun f h=>?_)
  · refine bB ?_
    refine Wi 51 1 h sB (VX _) fun v h3=>?_
    refine Wk [] 0 [] Wz
  · revert h;refine bE 1 [] 0 [] (Wq ?_);intro h;intros
    refine Tr.block ?_
    refine bq h (ctr+2) [(8,3)] [] (fun v1 u1=>Fa [(8,vb v1)] []) (fun v1 cu fJ fE ht hu hp h=>?_) (fun f h=>?_)
    · refine yP h rfl (fun _ h=>?_) (fun _ h=>?_)
      · refine bB ?_
        refine Wi 13 0 h sB (VW _ _) fun v2 h4=>?_
        obtain ⟨⟨_,_,_,⟨_,_⟩,_,_⟩,_⟩:=v2
        refine Wk [] 0 [] Wz
      · refine bq h cu [(16,3)] [] (fun v3 u2=>Fa [(16,vb v3)] []) (fun v3 jB ny mF ht hu hp h=>?_) (fun f h=>?_)
        · refine bB ?_
          refine Wi 21 0 h (sT sB) (UC _ _) fun v4 h5=>?_
          obtain ⟨⟨_,_,_,⟨_,_⟩,_,_⟩,_⟩:=v4
          refine Wk [] 0 [] Wz
        · refine Wx [] 0 [] Wz
    · refine Wx [] 0 [] Wz

theorem Xp a r (h:JF a=some r):Pf 311 [zV aj a] (vi r):=by
  unfold JF at h
  refine bC Tryz.func311 fun ctr hc=>?_
  refine bB ?_
  refine Wi 5 0 h sB (YL _ _ _) fun v h1=>?_
  refine Wk [] 0 [] Wz

theorem KJ t' r (h:xX t'=some r):Pf 20 [gP aj t'] (gP aj r):=by
  obtain ⟨⟨_⟩,⟨_,_,_,⟨_,_⟩,_,_⟩,⟨⟨⟨_⟩,⟨_,_,_,_,⟨_,_,_⟩,⟨⟨_,_,_,_⟩,_,_,_⟩⟩,⟨_,_,_,_⟩,⟨_,_⟩,⟨_,_⟩,_,_⟩,⟨⟨_⟩,⟨_,_,_,_,⟨_,_,_⟩,⟨⟨_,_,_,_⟩,_,_,_⟩⟩,⟨_,_,_,_⟩,⟨_,_⟩,⟨_,_⟩,_,_⟩,_,⟨_⟩,⟨⟨_,_,_,_,⟨_,_,_⟩,⟨⟨_,_,_,_⟩,_,_,_⟩⟩,⟨_,_,_,_,⟨_,_,_⟩,⟨⟨_,_,_,_⟩,_,_,_⟩⟩⟩,_,_,_⟩,_⟩:=t'
  unfold xX at h
  try dsimp only at h
  refine bC Tryz.func20 fun ctr hc=>?_
  refine bB ?_
  refine Wi 6 0 h sB (GY _) fun v h1=>?_
  obtain ⟨_,_⟩:=v
  refine Wk [] 0 [] Wz

theorem amC t' r (h:w4 t'=some r) (jd:Int) (wY:ah t'.fl=jd) (l8:Bool):jc Tryz.prog 420 [.agg 2 (fun j=>match j with | 0=>.vec 0 0 1 0 jd | 1=>vi t'.xE | _=>.junk)] [Ri aj 0 jd l8 t'.fl] [Ri aj 0 jd l8 r] (.gX 0 (fun _=>.junk)):=by
  obtain rfl:aj.len t'.fl=jd:=wY
  obtain ⟨q,q1⟩:=t'
  unfold w4 at h
  try dsimp only at h
  refine Il Tryz.func420 (mH Tryz.f420) fun ctr hc=>?_
  revert h;refine bE 2 [] 1 [] (Wq ?_);intro h;intros
  refine Tr.block ?_
  refine dO h (ctr+2) [(2,3),(3,39)] [] (fun v u=>Fa [(8,vi v)] []) bW (fun v uc ug ut f ht hu hp h=>?_)
  refine bB ?_
  refine Wo 17 4 (G9 ⟨q,q1⟩ (v-1)) fun v1 h17=>?_
  refine Wo 22 4 (G9 ⟨q,q1⟩ (v+1)) fun v2 h19=>?_
  refine Wk [] 1 [] Wz

theorem ZI l' pY r (h:O1 l' pY=some r):Pf 357 [Li aj l',vi pY] (Ui aj r):=by
  unfold O1 at h
  refine bC Tryz.func357 fun ctr hc=>?_
  refine bB ?_
  refine Wo 10 1 (jF l') fun v h1=>?_
  revert h;refine jI 3 [13] 0 [] (Wq ?_);intro h;intros
  refine bq h (ctr+3) [(8,1),(5,10)] [(10,1)] (fun o u=>⟨[],[(10,Ri aj (ctr+1) (aj.len v) (u.t 10) o)],fun _=>ah o=(ah v)⟩) (fun o uc ug ut ht hu hp h=>?_) (fun f h=>?_)
  · try dsimp only at hp h
    refine Wx [] 0 [] Wz
  · revert h;refine bE 1 [] 0 [] (Wq ?_);intro h;intros
    refine Tr.block ?_
    refine Tr.rounds 8 ?_
    refine iO h (ctr+4) [(8,1),(7,8)] [(10,1)] (fun o1 u1=>⟨[(16,vi 1)],[(10,Ri aj (ctr+1) (aj.len v) (u1.t 10) o1)],fun _=>ah o1=(ah v)⟩) (fun o1 cu fJ fE ht hu hp h=>?_) (fun f h=>?_)
    · try dsimp only at hp h
      refine iO h cu [(8,1),(7,8)] [(10,1)] (fun o2 u2=>⟨[(16,vi 2)],[(10,Ri aj (ctr+1) (aj.len v) (u2.t 10) o2)],fun _=>ah o2=(ah v)⟩) (fun o2 jB ny mF ht hu hp h=>?_) (fun f h=>?_)
      · try dsimp only at hp h
        refine iO h jB [(8,1),(7,8)] [(10,1)] (fun o3 u3=>⟨[(16,vi 3)],[(10,Ri aj (ctr+1) (aj.len v) (u3.t 10) o3)],fun _=>ah o3=(ah v)⟩) (fun o3 nA vN vo ht hu hp h=>?_) (fun f h=>?_)
        · try dsimp only at hp h
          refine iO h nA [(8,1),(7,8)] [(10,1)] (fun o4 u4=>⟨[(16,vi 4)],[(10,Ri aj (ctr+1) (aj.len v) (u4.t 10) o4)],fun _=>ah o4=(ah v)⟩) (fun o4 sw EM DR ht hu hp h=>?_) (fun f h=>?_)
          · try dsimp only at hp h
            refine iO h sw [(8,1),(7,8)] [(10,1)] (fun o5 u5=>⟨[(16,vi 5)],[(10,Ri aj (ctr+1) (aj.len v) (u5.t 10) o5)],fun _=>ah o5=(ah v)⟩) (fun o5 GU Pg NK ht hu hp h=>?_) (fun f h=>?_)
            · try dsimp only at hp h
              refine iO h GU [(8,1),(7,8)] [(10,1)] (fun o6 u6=>⟨[(16,vi 6)],[(10,Ri aj (ctr+1) (aj.len v) (u6.t 10) o6)],fun _=>ah o6=(ah v)⟩) (fun o6 Tc u6g ZH ht hu hp h=>?_) (fun f h=>?_)
              · try dsimp only at hp h
                refine iO h Tc [(8,1),(7,8)] [(10,1)] (fun o7 u7=>⟨[(16,vi 7)],[(10,Ri aj (ctr+1) (aj.len v) (u7.t 10) o7)],fun _=>ah o7=(ah v)⟩) (fun o7 u7c u7g u7t ht hu hp h=>?_) (fun f h=>?_)
                · try dsimp only at hp h
                  refine Zk 2 [] 0 [] Wz
                · revert h;refine bE 2 [] 0 [] (Wq ?_);intro h;intros
                  refine bq h (Tc+1) [(8,1),(9,5)] [(10,1)] (fun o8 u8=>⟨[],[(10,Ri aj (ctr+1) (aj.len v) (u8.t 10) o8)],fun _=>ah o8=(ah v)⟩) (fun o8 u8c u8g u8t ht hu hp h=>?_) (fun f h=>?_)
                  · try dsimp only at hp h
                    refine Wx [] 0 [] Wz
                  · refine Tr.block ?_
                    refine bq h (Tc+1) [(8,1),(9,2)] [] (fun _ u9=>Fa [(8,.fn (.func 423) 0 (fun _=>.junk))] []) (fun x u9c u9g u9t ht hu hp h=>?_) (fun f h=>?_)
                    · refine bB ?_
                      refine IJ 22 (fun r h=>amu ⟨o6,pY⟩ r h ((aj.len v)) Wy (ZH 10)) fun v1 h63=>?_
                      refine Wk [] 0 [] Wz
                    · refine Wx [] 0 [] Wz
              · revert h;refine bE 2 [] 0 [] (Wq ?_);intro h;intros
                refine bq h (GU+1) [(8,1),(9,5)] [(10,1)] (fun o9 u10=>⟨[],[(10,Ri aj (ctr+1) (aj.len v) (u10.t 10) o9)],fun _=>ah o9=(ah v)⟩) (fun o9 afS ajh aji ht hu hp h=>?_) (fun f h=>?_)
                · try dsimp only at hp h
                  refine Wx [] 0 [] Wz
                · refine Tr.block ?_
                  refine bq h (GU+1) [(8,1),(9,2)] [] (fun _ u11=>Fa [(8,.fn (.func 422) 0 (fun _=>.junk))] []) (fun x ajj aoA aoB ht hu hp h=>?_) (fun f h=>?_)
                  · refine bB ?_
                    refine IJ 22 (fun r h=>amy ⟨o5,pY⟩ r h ((aj.len v)) Wy (NK 10)) fun v2 XY=>?_
                    refine Wk [] 0 [] Wz
                  · refine Wx [] 0 [] Wz
            · revert h;refine bE 2 [] 0 [] (Wq ?_);intro h;intros
              refine bq h (sw+1) [(8,1),(9,5)] [(10,1)] (fun Iy u12=>⟨[],[(10,Ri aj (ctr+1) (aj.len v) (u12.t 10) Iy)],fun _=>ah Iy=(ah v)⟩) (fun Iy ajk aoC aoD ht hu hp h=>?_) (fun f h=>?_)
              · try dsimp only at hp h
                refine Wx [] 0 [] Wz
              · refine Tr.block ?_
                refine bq h (sw+1) [(8,1),(9,2)] [] (fun _ u13=>Fa [(8,.fn (.func 421) 0 (fun _=>.junk))] []) (fun x ajl aoE aoF ht hu hp h=>?_) (fun f h=>?_)
                · refine bB ?_
                  refine IJ 22 (fun r h=>amx ⟨o4,pY⟩ r h ((aj.len v)) Wy (DR 10)) fun v3 h79=>?_
                  refine Wk [] 0 [] Wz
                · refine Wx [] 0 [] Wz
          · revert h;refine bE 2 [] 0 [] (Wq ?_);intro h;intros
            refine bq h (nA+1) [(8,1),(9,5)] [(10,1)] (fun Iz u14=>⟨[],[(10,Ri aj (ctr+1) (aj.len v) (u14.t 10) Iz)],fun _=>ah Iz=(ah v)⟩) (fun Iz ajm aoG aoH ht hu hp h=>?_) (fun f h=>?_)
            · try dsimp only at hp h
              refine Wx [] 0 [] Wz
            · refine Tr.block ?_
              refine bq h (nA+1) [(8,1),(9,2)] [] (fun _ u15=>Fa [(8,.fn (.func 420) 0 (fun _=>.junk))] []) (fun x ajn aoI aoJ ht hu hp h=>?_) (fun f h=>?_)
              · refine bB ?_
                refine IJ 22 (fun r h=>amC ⟨o3,pY⟩ r h ((aj.len v)) Wy (vo 10)) fun v4 h87=>?_
                refine Wk [] 0 [] Wz
              · refine Wx [] 0 [] Wz
        · revert h;refine bE 2 [] 0 [] (Wq ?_);intro h;intros
          refine bq h (jB+1) [(8,1),(9,5)] [(10,1)] (fun OW u16=>⟨[],[(10,Ri aj (ctr+1) (aj.len v) (u16.t 10) OW)],fun _=>ah OW=(ah v)⟩) (fun OW ajo aoK aoL ht hu hp h=>?_) (fun f h=>?_)
          · try dsimp only at hp h
            refine Wx [] 0 [] Wz
          · refine Tr.block ?_
            refine bq h (jB+1) [(8,1),(9,2)] [] (fun _ u17=>Fa [(8,.fn (.func 419) 0 (fun _=>.junk))] []) (fun x ajp aoM aoN ht hu hp h=>?_) (fun f h=>?_)
            · refine bB ?_
              refine IJ 22 (fun r h=>amw ⟨o2,pY⟩ r h ((aj.len v)) Wy (mF 10)) fun v5 h95=>?_
              refine Wk [] 0 [] Wz
            · refine Wx [] 0 [] Wz
      · revert h;refine bE 2 [] 0 [] (Wq ?_);intro h;intros
        refine bq h (cu+1) [(8,1),(9,5)] [(10,1)] (fun OX u18=>⟨[],[(10,Ri aj (ctr+1) (aj.len v) (u18.t 10) OX)],fun _=>ah OX=(ah v)⟩) (fun OX ajq aoO aoP ht hu hp h=>?_) (fun f h=>?_)
        · try dsimp only at hp h
          refine Wx [] 0 [] Wz
        · refine Tr.block ?_
          refine bq h (cu+1) [(8,1),(9,2)] [] (fun _ u19=>Fa [(8,.fn (.func 418) 0 (fun _=>.junk))] []) (fun x ajr aoQ aoR ht hu hp h=>?_) (fun f h=>?_)
          · refine bB ?_
            refine IJ 22 (fun r h=>ams ⟨o1,pY⟩ r h ((aj.len v)) Wy (fE 10)) fun v6 aro=>?_
            refine Wk [] 0 [] Wz
          · refine Wx [] 0 [] Wz
    · revert h;refine bE 2 [] 0 [] (Wq ?_);intro h;intros
      refine bq h (ctr+5) [(8,1),(9,5)] [(10,1)] (fun OY u20=>⟨[],[(10,Ri aj (ctr+1) (aj.len v) (u20.t 10) OY)],fun _=>ah OY=(ah v)⟩) (fun OY ajs aoS aoT ht hu hp h=>?_) (fun f h=>?_)
      · try dsimp only at hp h
        refine Wx [] 0 [] Wz
      · refine Tr.block ?_
        refine bq h (ctr+5) [(8,1),(9,2)] [] (fun _ u21=>Fa [(8,.fn (.func 417) 0 (fun _=>.junk))] []) (fun x ajt aoU aoV ht hu hp h=>?_) (fun f h=>?_)
        · refine bB ?_
          refine IJ 22 (fun r h=>amv ⟨v,pY⟩ r h ((aj.len v)) Wy (false)) fun v7 arp=>?_
          refine Wk [] 0 [] Wz
        · refine Wx [] 0 [] Wz

theorem MK a b r (h:rD a b=some r):Pf 21 [zY aj a,zY aj b] (vb r):=by
  obtain ⟨_,_,_,⟨_,_⟩,_,_⟩:=a
  obtain ⟨_,_,_,⟨_,_⟩,_,_⟩:=b
  unfold rD at h
  try dsimp only at h
  refine bC Tryz.func21 fun ctr hc=>?_
  refine bB ?_
  refine mR 40 0 h sB (MN _ _) fun v h1=>?_
  refine Wk [] 0 [] Wz

end Go.Vx
