/- Walks, by program (lift5.py): the code does what the lifted functions say. -/
import Derived.Test.YtckmalogclklmaaGreatDoorTHead
import Derived.Test.YtckmalogclklmaaGreatDoorTWb2
import Derived.Test.YtckmalogclklmaaGreatDoorTWb5
import Derived.Test.YtckmalogclklmaaGreatDoorTWb6
import Derived.Test.YtckmalogclklmaaGreatDoorTWb9
import Derived.Test.YtckmalogclklmaaGreatDoorTWb10
import Derived.Test.YtckmalogclklmaaGreatDoorTWb11
import Derived.Test.YtckmalogclklmaaGreatDoorTWb13
import Derived.Test.YtckmalogclklmaaGreatDoorTWb16
import Derived.Test.YtckmalogclklmaaGreatDoorTDg
import Derived.Test.YtckmalogclklmaaGreatDoorTSd
import Derived.Test.YtckmalogclklmaaGreatDoorTCh
import Derived.Test.YtckmalogclklmaaGreatDoorTWb3
import Derived.Test.YtckmalogclklmaaGreatDoorTWb4
import Derived.Test.YtckmalogclklmaaGreatDoorTWb7
set_option linter.all false
section
namespace Go.Vx
open Go.Proofs
set_option maxRecDepth 100000
set_option maxHeartbeats 8000000
set_option linter.unusedVariables false
set_option linter.unusedSimpArgs false
attribute [local irreducible] chk ay av aM lI

theorem G5 s h' w r (h:qo s h' w=some r):Pf 44 [gJ aj s,vi h',vi w] (gJ aj r):=by
  obtain ⟨⟨_⟩,⟨_,_,_,_,⟨_,_,_⟩,⟨⟨_,_,_,_⟩,_,_,_⟩⟩,⟨_,_,_,_⟩,⟨KL,KN⟩,⟨GX,q22⟩,_,_⟩:=s
  unfold qo at h
  try dsimp only at h
  refine bC Tryz.func44 fun ctr hc=>?_
  refine bB ?_
  refine Wi 15 0 h sB (wW _) fun v h1=>?_
  refine Wi 42 0 h (sK v (sF (sF sB))) (Xv _) fun v1 h2=>?_
  refine Wi 51 0 h (sK v (sF (sF (sK v1 (sC sB))))) (Ur _ _ _ _) fun v2 h4=>?_
  obtain ⟨AV,IV,_⟩:=v2
  refine Wo 67 0 (VK ⟨GX,q22⟩ (jw AV 0 (bR 0 (bH ((ah AV)-(bR 1 (bH h' 1000))) IV)))) fun v3 h7=>?_
  revert h;refine jI 9 [] 0 [] (Wq ?_);intro h;intros
  refine bq h (ctr+9) [(11,1),(1,1),(57,17)] [(70,1)] (fun rows u=>Fa [(11,.vec 70 (u.g 70) 4 0 (aj.len rows))] [(70,iM aj (u.g 70) (aj.len rows) (u.t 70) rows)]) (fun rows uc ug ut ht hu hp h=>?_) (fun f h=>?_)
  · refine bq h uc [(11,1),(76,10)] [(70,1)] (fun RD u1=>Fa [(11,.vec 70 (u1.g 70) 4 0 (aj.len RD))] [(70,iM aj (u1.g 70) (aj.len RD) (u1.t 70) RD)]) (fun RD cu fJ fE ht hu hp h=>?_) (fun f h=>?_)
    · refine bB ?_
      refine Wi 108 0 h sB (zf _ _ _ _) fun v4 h22=>?_
      obtain ⟨⟨_,_,_,_,⟨_,_,_⟩,⟨⟨_,_,_,_⟩,_,_,_⟩⟩,⟨_,_,_,_⟩⟩:=v4
      refine Wo 124 0 (Xl ⟨KL,KN⟩ (bR 1 (bH w 4096))) fun v5 Ye=>?_
      refine Wk [] 0 [] Wz
    · refine Tr.block ?_
      refine dO h uc [(11,1),(76,10)] [(70,1),(26,1)] (fun E8 u2=>Fa [(11,.vec 70 (u2.g 70) 4 0 (aj.len E8))] [(70,iM aj (u2.g 70) (aj.len E8) (u2.t 70) E8)]) bW (fun E8 jB ny mF f ht hu hp h=>?_)
      refine bB ?_
      refine Wi 95 0 h (sT sB) (MH _ _) fun v6 h29=>?_
      refine Wk [96] 0 [] Wz
  · revert h;refine bE 1 [] 0 [] (Wq ?_);intro h;intros
    refine Tr.block ?_
    refine dO h (ctr+10) [(11,1),(1,1),(59,1),(1,13)] [(13,1),(56,1),(15,1)] (fun (v7,E5) u3=>Fa [(11,.vec 70 (u3.g 70) 4 0 (aj.len E5)),(73,iC aj (aj.sub AV ((std Tryz.prog).imax 0 ((std Tryz.prog).uf ((std Tryz.prog).sub (aj.len AV) ((std Tryz.prog).imax 1 ((std Tryz.prog).uf h' 1000))) IV)) (aj.len AV))),(75,vi v7)] [(70,iM aj (u3.g 70) (aj.len E5) (u3.t 70) E5)]) bW (fun x nA vN vo f ht hu hp h=>?_)
    obtain ⟨_,_⟩:=x
    try dsimp only at hp h
    refine Wx [85] 0 [] Wz

theorem Uu s h' w r (h:uN s h' w=some r):Pf 19 [dF aj s,vi h',vi w] (dF aj r):=by
  unfold uN at h
  refine bC Tryz.func19 fun ctr hc=>?_
  refine bB ?_
  refine Wo 13 0 (wX s) fun v h1=>?_
  refine Wo 19 0 (AZ s.aR.fR) fun v1 h2=>?_
  obtain ⟨_,_,_,_⟩:=v1
  refine Wo 23 0 (yO h' w) fun v2 h3=>?_
  obtain ⟨⟨_,_,_,_,⟨_,_,_⟩,⟨⟨_,_,_,_⟩,_,_,_⟩⟩,⟨_,_,_,_⟩⟩:=v2
  refine Wo 34 0 (G5 s.aR h' w) fun v3 h4=>?_
  refine Wo 40 0 (G5 s.aT h' w) fun v4 h5=>?_
  revert h;refine jI 6 [] 0 [] (Wq ?_);intro h;intros
  refine bq h (ctr+7) [(10,2),(30,18)] [(3,1)] (fun s1 u=>Fa [] [(3,.box (ctr+0) (cellsOf 83 fun j=>(oM aj s1 j)))]) (fun s1 uc ug ut ht hu hp h=>?_) (fun f h=>?_)
  · refine Wx [] 0 [] Wz
  · revert h;refine bE 1 [] 0 [] (Wq ?_);intro h;intros
    refine Tr.block ?_
    refine Tr.rounds 3 ?_
    refine iO h (ctr+8) [(10,2),(32,16)] [(3,1),(7,1)] (fun s2 u1=>Fa [(44,vi 1)] [(3,.box (ctr+0) (cellsOf 83 fun j=>(oM aj s2 j)))]) (fun s2 cu fJ fE ht hu hp h=>?_) (fun f h=>?_)
    · refine iO h cu [(10,2),(32,16)] [(3,1),(7,1)] (fun s3 u2=>Fa [(44,vi 2)] [(3,.box (ctr+0) (cellsOf 83 fun j=>(oM aj s3 j)))]) (fun s3 jB ny mF ht hu hp h=>?_) (fun f h=>?_)
      · refine Wx [] 0 [] Wz
      · refine bB ?_
        refine Wi 54 0 h sB (zf _ _ _ _) fun v5 h14=>?_
        obtain ⟨⟨_,_,_,_,⟨_,_,_⟩,⟨⟨_,_,_,_⟩,_,_,_⟩⟩,⟨_,_,_,_⟩⟩:=v5
        refine Wk [] 0 [] Wz
    · refine bB ?_
      refine Wi 54 0 h sB (zf _ _ _ _) fun v6 h16=>?_
      obtain ⟨⟨_,_,_,_,⟨_,_,_⟩,⟨⟨_,_,_,_⟩,_,_,_⟩⟩,⟨_,_,_,_⟩⟩:=v6
      refine Wk [] 0 [] Wz

theorem CG t' h' w r (h:mZ t' h' w=some r):Pf 7 [gP aj t',vi h',vi w] (gP aj r):=by
  unfold mZ at h
  refine bC Tryz.func7 fun ctr hc=>?_
  refine bB ?_
  refine Wo 8 0 (nJ t') fun v h1=>?_
  refine Wo 31 0 (Uu t'.fS h' w) fun v1 h2=>?_
  refine Wi 34 0 h (sK v (sF (sK v1 sB))) (KJ _) fun v2 h3=>?_
  refine Wk [] 0 [] Wz

end Go.Vx
end

section
namespace Go.Vx
open Go.Proofs
set_option maxRecDepth 100000
set_option maxHeartbeats 8000000
set_option linter.unusedVariables false
set_option linter.unusedSimpArgs false
attribute [local irreducible] chk ay av aM lI

theorem ZV t' r (h:OU t'=some r):Pf 67 [gP aj t'] (DC aj r):=by
  unfold OU at h
  refine bC Tryz.func67 fun ctr hc=>?_
  refine bB ?_
  refine Wo 10 0 (nJ t') fun v h1=>?_
  refine Wo 14 0 (jX t'.fS) fun v1 h2=>?_
  obtain ⟨⟨q⟩,⟨_,_,_,_,⟨_,_,_⟩,⟨⟨_,_,_,_⟩,_,_,_⟩⟩,⟨_,_,_,_⟩,⟨_,_⟩,⟨_,_⟩,_,_⟩:=v1
  refine Wo 18 0 (sI t'.fS.fM true 2501) fun v2 h3=>?_
  refine Wo 20 0 (GY t') fun v3 h4=>?_
  refine Wo 25 1 (SE v3 ⟨q⟩ t'.jl) fun v4 h5=>?_
  revert h;refine jI 6 [] 0 [] (Wq ?_);intro h;intros
  refine bq h (ctr+6) [(7,2),(20,27)] [(28,1)] (fun out u=>⟨[],[(28,iM aj (ctr+5) (aj.len v4) (u.t 28) out)],fun _=>ah out=(ah v4)⟩) (fun out uc ug ut ht hu hp h=>?_) (fun f h=>?_)
  · try dsimp only at hp h
    refine Wx [] 0 [] Wz
  · revert h;refine bE 1 [] 0 [] (Wq ?_);intro h;intros
    refine Tr.block ?_
    refine dO h (ctr+7) [(7,2),(22,25)] [(8,1),(19,1)] (fun (v5,aO) u1=>⟨[(31,vi v5)],[(28,iM aj (ctr+5) (aj.len v4) (u1.t 28) aO)],fun _=>ah aO=(ah v4)⟩) bW (fun x cu fJ fE f ht hu hp h=>?_)
    obtain ⟨_,_⟩:=x
    try dsimp only at hp h
    refine Wx [] 0 [] Wz

theorem ZW t' d' r (h:O7 t' d'=some r):Pf 33 [gP aj t',dZ aj d'] (.gX 3 (fun j=>match j with | 0=>(xO aj r.1) | 1=>(vi r.2.1) | 2=>(vb r.2.2) | _=>.junk)):=by
  obtain ⟨⟨q⟩,⟨q1,q2,q3,⟨q4,q5⟩,q6,q7⟩,⟨⟨⟨q8⟩,⟨q9,yw,BD,BF,⟨BG,Kv,GV⟩,⟨⟨q16,KA,KC,KL⟩,KN,GX,q22⟩⟩,⟨Pv,q24,AV,IV⟩,⟨Px,Py⟩,⟨Pz,PD⟩,PE,q32⟩,⟨⟨PG⟩,⟨PI,PK,PL,PN,⟨PO,PS,KD⟩,⟨⟨KE,KF,KG,PU⟩,PV,PW,PX⟩⟩,⟨PY,PZ,P5,P6⟩,⟨P7,P8⟩,⟨P9,Qa⟩,Qb,Qc⟩,Qd,⟨Qe⟩,⟨⟨Qf,Qg,Qh,Qi,⟨Qj,Qk,Ql⟩,⟨⟨Qm,Qn,Qo,Qp⟩,Qq,Qr,Qs⟩⟩,⟨Qt,Qu,Qv,Qw,⟨Qx,Qy,Qz⟩,⟨⟨QA,QB,VL,VN⟩,VO,VP,VQ⟩⟩⟩,VR,VT,VU⟩,Yf⟩:=t'
  unfold O7 at h
  try dsimp only at h
  refine bC Tryz.func33 fun ctr hc=>?_
  refine bB ?_
  refine Wi 12 0 h sB (jX _) fun v h1=>?_
  obtain ⟨⟨_⟩,⟨_,ZX,_,_,⟨_,_,_⟩,⟨⟨_,_,_,_⟩,_,_,_⟩⟩,⟨_,_,_,_⟩,⟨_,_⟩,⟨_,_⟩,_,_⟩:=v
  refine Wo 21 0 (ZV ⟨⟨q⟩,⟨q1,q2,q3,⟨q4,q5⟩,q6,q7⟩,⟨⟨⟨q8⟩,⟨q9,yw,BD,BF,⟨BG,Kv,GV⟩,⟨⟨q16,KA,KC,KL⟩,KN,GX,q22⟩⟩,⟨Pv,q24,AV,IV⟩,⟨Px,Py⟩,⟨Pz,PD⟩,PE,q32⟩,⟨⟨PG⟩,⟨PI,PK,PL,PN,⟨PO,PS,KD⟩,⟨⟨KE,KF,KG,PU⟩,PV,PW,PX⟩⟩,⟨PY,PZ,P5,P6⟩,⟨P7,P8⟩,⟨P9,Qa⟩,Qb,Qc⟩,Qd,⟨Qe⟩,⟨⟨Qf,Qg,Qh,Qi,⟨Qj,Qk,Ql⟩,⟨⟨Qm,Qn,Qo,Qp⟩,Qq,Qr,Qs⟩⟩,⟨Qt,Qu,Qv,Qw,⟨Qx,Qy,Qz⟩,⟨⟨QA,QB,VL,VN⟩,VO,VP,VQ⟩⟩⟩,VR,VT,VU⟩,Yf⟩) fun v1 h3=>?_
  refine Wo 24 0 (YJ ⟨⟨q⟩,⟨q1,q2,q3,⟨q4,q5⟩,q6,q7⟩,⟨⟨⟨q8⟩,⟨q9,yw,BD,BF,⟨BG,Kv,GV⟩,⟨⟨q16,KA,KC,KL⟩,KN,GX,q22⟩⟩,⟨Pv,q24,AV,IV⟩,⟨Px,Py⟩,⟨Pz,PD⟩,PE,q32⟩,⟨⟨PG⟩,⟨PI,PK,PL,PN,⟨PO,PS,KD⟩,⟨⟨KE,KF,KG,PU⟩,PV,PW,PX⟩⟩,⟨PY,PZ,P5,P6⟩,⟨P7,P8⟩,⟨P9,Qa⟩,Qb,Qc⟩,Qd,⟨Qe⟩,⟨⟨Qf,Qg,Qh,Qi,⟨Qj,Qk,Ql⟩,⟨⟨Qm,Qn,Qo,Qp⟩,Qq,Qr,Qs⟩⟩,⟨Qt,Qu,Qv,Qw,⟨Qx,Qy,Qz⟩,⟨⟨QA,QB,VL,VN⟩,VO,VP,VQ⟩⟩⟩,VR,VT,VU⟩,Yf⟩) fun v2 h4=>?_
  refine Wo 25 0 (abf d' v1 (ZX+Yf) v2) fun v3 h5=>?_
  obtain ⟨⟨_,_,_,_⟩,_⟩:=v3
  refine Wk [] 0 [] Wz

theorem Xw t' d' r (h:JO t' d'=some r):Pf 13 [gP aj t',dZ aj d'] (.gX 3 (fun j=>match j with | 0=>(vi r.1) | 1=>(vi r.2.1) | 2=>(vb r.2.2) | _=>.junk)):=by
  obtain ⟨⟨_⟩,⟨_,_,_,⟨_,_⟩,_,_⟩,⟨⟨⟨q8⟩,⟨q9,yw,BD,BF,⟨BG,Kv,GV⟩,⟨⟨q16,KA,KC,KL⟩,KN,GX,q22⟩⟩,⟨Pv,q24,AV,IV⟩,⟨Px,Py⟩,⟨Pz,PD⟩,PE,q32⟩,⟨⟨PG⟩,⟨PI,PK,PL,PN,⟨PO,PS,KD⟩,⟨⟨KE,KF,KG,PU⟩,PV,PW,PX⟩⟩,⟨PY,PZ,P5,P6⟩,⟨P7,P8⟩,⟨P9,Qa⟩,Qb,Qc⟩,Qd,⟨Qe⟩,⟨⟨Qf,Qg,Qh,Qi,⟨Qj,Qk,Ql⟩,⟨⟨Qm,Qn,Qo,Qp⟩,Qq,Qr,Qs⟩⟩,⟨Qt,Qu,Qv,Qw,⟨Qx,Qy,Qz⟩,⟨⟨QA,QB,VL,VN⟩,VO,VP,VQ⟩⟩⟩,VR,VT,VU⟩,_⟩:=t'
  unfold JO at h
  try dsimp only at h
  refine bC Tryz.func13 fun ctr hc=>?_
  refine bB ?_
  refine Wi 11 0 h sB (nJ _) fun v h1=>?_
  refine mR 17 0 h (sK v sB) (sI _ _ _) fun v1 h2=>?_
  refine Wi 23 0 h (sK v (sK v1 (sF sB))) (ZW _ _) fun v2 h3=>?_
  obtain ⟨⟨q92,q93,ZX,q95⟩,_,_⟩:=v2
  refine Wo 33 0 (jX ⟨⟨⟨q8⟩,⟨q9,yw,BD,BF,⟨BG,Kv,GV⟩,⟨⟨q16,KA,KC,KL⟩,KN,GX,q22⟩⟩,⟨Pv,q24,AV,IV⟩,⟨Px,Py⟩,⟨Pz,PD⟩,PE,q32⟩,⟨⟨PG⟩,⟨PI,PK,PL,PN,⟨PO,PS,KD⟩,⟨⟨KE,KF,KG,PU⟩,PV,PW,PX⟩⟩,⟨PY,PZ,P5,P6⟩,⟨P7,P8⟩,⟨P9,Qa⟩,Qb,Qc⟩,Qd,⟨Qe⟩,⟨⟨Qf,Qg,Qh,Qi,⟨Qj,Qk,Ql⟩,⟨⟨Qm,Qn,Qo,Qp⟩,Qq,Qr,Qs⟩⟩,⟨Qt,Qu,Qv,Qw,⟨Qx,Qy,Qz⟩,⟨⟨QA,QB,VL,VN⟩,VO,VP,VQ⟩⟩⟩,VR,VT,VU⟩) fun v3 h4=>?_
  refine Wo 36 0 (Xx ⟨q92,q93,ZX,q95⟩ v3.fC.fX) fun v4 h5=>?_
  refine Wk [] 0 [] Wz

end Go.Vx
end
