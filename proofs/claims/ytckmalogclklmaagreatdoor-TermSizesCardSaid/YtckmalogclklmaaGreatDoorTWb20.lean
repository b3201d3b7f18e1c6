/- Walks, by program (lift5.py): the code does what the lifted functions say. -/
import Derived.Test.YtckmalogclklmaaGreatDoorTHead
import Derived.Test.YtckmalogclklmaaGreatDoorTWb3
import Derived.Test.YtckmalogclklmaaGreatDoorTWb12
import Derived.Test.YtckmalogclklmaaGreatDoorTWb13
import Derived.Test.YtckmalogclklmaaGreatDoorTWb14
import Derived.Test.YtckmalogclklmaaGreatDoorTWb16
import Derived.Test.YtckmalogclklmaaGreatDoorTWb17
import Derived.Test.YtckmalogclklmaaGreatDoorTWb19
import Derived.Test.YtckmalogclklmaaGreatDoorTDg
import Derived.Test.YtckmalogclklmaaGreatDoorTSd
import Derived.Test.YtckmalogclklmaaGreatDoorTCh
set_option linter.all false
namespace Go.Vx
open Go.Proofs
set_option maxRecDepth 100000
set_option maxHeartbeats 8000000
set_option linter.unusedVariables false
set_option linter.unusedSimpArgs false
attribute [local irreducible] chk ay av aM lI

theorem abh h' w kept d' l' r (h:Ua h' w kept d' l'=some r):Pf 11 [vi h',vi w,vi kept,dZ aj d',acs aj l'] (.gX 2 (fun j=>match j with | 0=>(gP aj r.1) | 1=>(Lu aj r.2) | _=>.junk)):=by
  unfold Ua at h
  refine bC Tryz.func11 fun ctr hc=>?_
  refine bB ?_
  refine Wo 21 0 (abd h' w kept) fun v h1=>?_
  revert h;refine jI 3 [] 0 [] (Wq ?_);intro h;intros
  refine bq h (ctr+3) [(13,1),(1,3),(4,18)] [(12,1),(25,1)] (fun (xA,out) u=>Fa [(13,.vec 38 (u.g 38) 1 0 (aj.len out))] [(12,.box (ctr+1) (cellsOf 92 fun j=>(qO aj xA j))),(38,Ru aj (u.g 38) (aj.len out) (u.t 38) out)]) (fun x uc ug ut ht hu hp h=>?_) (fun f h=>?_)
  · obtain ⟨_,_⟩:=x
    try dsimp only at hp h
    refine Wx [] 0 [] Wz
  · revert h;refine bE 1 [] 0 [] (Wq ?_);intro h;intros
    refine Tr.block ?_
    refine dO h (ctr+4) [(13,1),(1,3),(6,16)] [(12,1),(2,2),(21,1)] (fun (v1,IE,aO) u1=>Fa [(13,.vec 38 (u1.g 38) 1 0 (aj.len aO)),(24,vi v1)] [(12,.box (ctr+1) (cellsOf 92 fun j=>(qO aj IE j))),(38,Ru aj (u1.g 38) (aj.len aO) (u1.t 38) aO)]) bW (fun x cu fJ fE f ht hu hp h=>?_)
    obtain ⟨_,_,_⟩:=x
    try dsimp only at hp h
    refine bB ?_
    refine Wi 32 0 h (sT (sC sB)) (acX _ _ _) fun v2 h19=>?_
    obtain ⟨⟨⟨_⟩,⟨_,_,_,⟨_,_⟩,_,_⟩,⟨⟨⟨_⟩,⟨_,_,_,_,⟨_,_,_⟩,⟨⟨_,_,_,_⟩,_,_,_⟩⟩,⟨_,_,_,_⟩,⟨_,_⟩,⟨_,_⟩,_,_⟩,⟨⟨_⟩,⟨_,_,_,_,⟨_,_,_⟩,⟨⟨_,_,_,_⟩,_,_,_⟩⟩,⟨_,_,_,_⟩,⟨_,_⟩,⟨_,_⟩,_,_⟩,_,⟨_⟩,⟨⟨_,_,_,_,⟨_,_,_⟩,⟨⟨_,_,_,_⟩,_,_,_⟩⟩,⟨_,_,_,_,⟨_,_,_⟩,⟨⟨_,_,_,_⟩,_,_,_⟩⟩⟩,_,_,_⟩,_⟩,_⟩:=v2
    refine Wk [] 0 [] Wz

theorem KP r (h:nG=some r):Pf 4 [] (vb r):=by
  unfold nG at h
  refine bC Tryz.func4 fun ctr hc=>?_
  refine bB ?_
  refine Wo 7 0 (abe) fun v h1=>?_
  refine Wi 15 0 h (sK v sB) (abh _ _ _ _ _) fun v1 h2=>?_
  obtain ⟨⟨⟨q⟩,⟨q1,q2,q3,⟨q4,q5⟩,q6,q7⟩,⟨⟨⟨q8⟩,⟨q9,yw,BD,BF,⟨BG,Kv,GV⟩,⟨⟨q16,KA,KC,KL⟩,KN,GX,q22⟩⟩,⟨Pv,q24,AV,IV⟩,⟨Px,Py⟩,⟨Pz,PD⟩,PE,q32⟩,⟨⟨PG⟩,⟨PI,PK,PL,PN,⟨PO,PS,KD⟩,⟨⟨KE,KF,KG,PU⟩,PV,PW,PX⟩⟩,⟨PY,PZ,P5,P6⟩,⟨P7,P8⟩,⟨P9,Qa⟩,Qb,Qc⟩,Qd,⟨Qe⟩,⟨⟨Qf,Qg,Qh,Qi,⟨Qj,Qk,Ql⟩,⟨⟨Qm,Qn,Qo,Qp⟩,Qq,Qr,Qs⟩⟩,⟨Qt,Qu,Qv,Qw,⟨Qx,Qy,Qz⟩,⟨⟨QA,QB,VL,VN⟩,VO,VP,VQ⟩⟩⟩,VR,VT,VU⟩,Yf⟩,q92⟩:=v1
  refine Wod 20 0 h1 ?_
  refine Wo 21 0 (Xw ⟨⟨q⟩,⟨q1,q2,q3,⟨q4,q5⟩,q6,q7⟩,⟨⟨⟨q8⟩,⟨q9,yw,BD,BF,⟨BG,Kv,GV⟩,⟨⟨q16,KA,KC,KL⟩,KN,GX,q22⟩⟩,⟨Pv,q24,AV,IV⟩,⟨Px,Py⟩,⟨Pz,PD⟩,PE,q32⟩,⟨⟨PG⟩,⟨PI,PK,PL,PN,⟨PO,PS,KD⟩,⟨⟨KE,KF,KG,PU⟩,PV,PW,PX⟩⟩,⟨PY,PZ,P5,P6⟩,⟨P7,P8⟩,⟨P9,Qa⟩,Qb,Qc⟩,Qd,⟨Qe⟩,⟨⟨Qf,Qg,Qh,Qi,⟨Qj,Qk,Ql⟩,⟨⟨Qm,Qn,Qo,Qp⟩,Qq,Qr,Qs⟩⟩,⟨Qt,Qu,Qv,Qw,⟨Qx,Qy,Qz⟩,⟨⟨QA,QB,VL,VN⟩,VO,VP,VQ⟩⟩⟩,VR,VT,VU⟩,Yf⟩ v) fun v2 h3=>?_
  obtain ⟨q93,ZX,q95⟩:=v2
  refine IK 41 0 (if (if (if (mD (GH q92) (⟨#[27,91,49,59,50,82]⟩:ByteArray))=true then q95 else false)=true then (q93 == 0) else false)=true then (ZX == 1) else false) (nJ ⟨⟨q⟩,⟨q1,q2,q3,⟨q4,q5⟩,q6,q7⟩,⟨⟨⟨q8⟩,⟨q9,yw,BD,BF,⟨BG,Kv,GV⟩,⟨⟨q16,KA,KC,KL⟩,KN,GX,q22⟩⟩,⟨Pv,q24,AV,IV⟩,⟨Px,Py⟩,⟨Pz,PD⟩,PE,q32⟩,⟨⟨PG⟩,⟨PI,PK,PL,PN,⟨PO,PS,KD⟩,⟨⟨KE,KF,KG,PU⟩,PV,PW,PX⟩⟩,⟨PY,PZ,P5,P6⟩,⟨P7,P8⟩,⟨P9,Qa⟩,Qb,Qc⟩,Qd,⟨Qe⟩,⟨⟨Qf,Qg,Qh,Qi,⟨Qj,Qk,Ql⟩,⟨⟨Qm,Qn,Qo,Qp⟩,Qq,Qr,Qs⟩⟩,⟨Qt,Qu,Qv,Qw,⟨Qx,Qy,Qz⟩,⟨⟨QA,QB,VL,VN⟩,VO,VP,VQ⟩⟩⟩,VR,VT,VU⟩,Yf⟩) false fun v3 h4=>?_
  refine Wk [14] 0 [] Wz

theorem EU t' h' w r (h:ng t' h' w=some r):Pf 3 [mG aj t',vi h',vi w] (vb r):=by
  obtain ⟨⟨q⟩,⟨q1,q2,q3,⟨q4,q5⟩,q6,q7⟩,⟨⟨⟨q8⟩,⟨q9,yw,BD,BF,⟨BG,Kv,GV⟩,⟨⟨q16,KA,KC,KL⟩,KN,GX,q22⟩⟩,⟨Pv,q24,AV,IV⟩,⟨Px,Py⟩,⟨Pz,PD⟩,PE,q32⟩,⟨⟨PG⟩,⟨PI,PK,PL,PN,⟨PO,PS,KD⟩,⟨⟨KE,KF,KG,PU⟩,PV,PW,PX⟩⟩,⟨PY,PZ,P5,P6⟩,⟨P7,P8⟩,⟨P9,Qa⟩,Qb,Qc⟩,Qd,⟨Qe⟩,⟨⟨Qf,Qg,Qh,Qi,⟨Qj,Qk,Ql⟩,⟨⟨Qm,Qn,Qo,Qp⟩,Qq,Qr,Qs⟩⟩,⟨Qt,Qu,Qv,Qw,⟨Qx,Qy,Qz⟩,⟨⟨QA,QB,VL,VN⟩,VO,VP,VQ⟩⟩⟩,VR,VT,VU⟩,Yf⟩:=t'
  unfold ng at h
  try dsimp only at h
  refine bC Tryz.func3 fun ctr hc=>?_
  refine bB ?_
  refine Wo 15 0 (KP) fun v h1=>?_
  refine Wi 17 0 h (sK v sB) (MJ _) fun v1 h2=>?_
  refine Wo 19 0 (nJ v1) fun v2 h3=>?_
  refine Wo 52 0 (CG v1 (bH h' 30) (bH w 50)) fun v3 h4=>?_
  obtain ⟨⟨q92⟩,⟨q93,ZX,q95,⟨q96,q97⟩,q98,q99⟩,⟨⟨⟨ajx⟩,⟨ajy,ajz,ajA,ajB,⟨ajC,ajD,ajE⟩,⟨⟨ajF,ajG,ajH,ajI⟩,ajJ,ajK,ajL⟩⟩,⟨ajM,ajN,ajO,ajP⟩,⟨ajQ,ajR⟩,⟨ajS,ajT⟩,ajU,ajV⟩,⟨⟨ajW⟩,⟨ajX,ajY,ajZ,aj0,⟨aj1,aj2,aj3⟩,⟨⟨aj4,aj5,aj6,aj7⟩,aj8,aj9,akb⟩⟩,⟨akc,akd,ake,akf⟩,⟨akg,akh⟩,⟨aki,akj⟩,akk,akl⟩,akm,⟨akn⟩,⟨⟨ako,akp,akq,akr,⟨aks,akt,aku⟩,⟨⟨akv,akw,akx,aky⟩,akz,akA,akB⟩⟩,⟨akC,akD,akE,akF,⟨akG,akH,akI⟩,⟨⟨akJ,akK,akL,akM⟩,akN,akO,akP⟩⟩⟩,akQ,akR,akS⟩,aoY⟩:=v3
  refine IK 62 0 v (sH ⟨⟨q92⟩,⟨q93,ZX,q95,⟨q96,q97⟩,q98,q99⟩,⟨⟨⟨ajx⟩,⟨ajy,ajz,ajA,ajB,⟨ajC,ajD,ajE⟩,⟨⟨ajF,ajG,ajH,ajI⟩,ajJ,ajK,ajL⟩⟩,⟨ajM,ajN,ajO,ajP⟩,⟨ajQ,ajR⟩,⟨ajS,ajT⟩,ajU,ajV⟩,⟨⟨ajW⟩,⟨ajX,ajY,ajZ,aj0,⟨aj1,aj2,aj3⟩,⟨⟨aj4,aj5,aj6,aj7⟩,aj8,aj9,akb⟩⟩,⟨akc,akd,ake,akf⟩,⟨akg,akh⟩,⟨aki,akj⟩,akk,akl⟩,akm,⟨akn⟩,⟨⟨ako,akp,akq,akr,⟨aks,akt,aku⟩,⟨⟨akv,akw,akx,aky⟩,akz,akA,akB⟩⟩,⟨akC,akD,akE,akF,⟨akG,akH,akI⟩,⟨⟨akJ,akK,akL,akM⟩,akN,akO,akP⟩⟩⟩,akQ,akR,akS⟩,aoY⟩) mI fun v4 h5=>?_
  refine IK 64 0 v (um v4 ⟨⟨q⟩,⟨q1,q2,q3,⟨q4,q5⟩,q6,q7⟩,⟨⟨⟨q8⟩,⟨q9,yw,BD,BF,⟨BG,Kv,GV⟩,⟨⟨q16,KA,KC,KL⟩,KN,GX,q22⟩⟩,⟨Pv,q24,AV,IV⟩,⟨Px,Py⟩,⟨Pz,PD⟩,PE,q32⟩,⟨⟨PG⟩,⟨PI,PK,PL,PN,⟨PO,PS,KD⟩,⟨⟨KE,KF,KG,PU⟩,PV,PW,PX⟩⟩,⟨PY,PZ,P5,P6⟩,⟨P7,P8⟩,⟨P9,Qa⟩,Qb,Qc⟩,Qd,⟨Qe⟩,⟨⟨Qf,Qg,Qh,Qi,⟨Qj,Qk,Ql⟩,⟨⟨Qm,Qn,Qo,Qp⟩,Qq,Qr,Qs⟩⟩,⟨Qt,Qu,Qv,Qw,⟨Qx,Qy,Qz⟩,⟨⟨QA,QB,VL,VN⟩,VO,VP,VQ⟩⟩⟩,VR,VT,VU⟩,Yf⟩) false fun v5 h6=>?_
  refine Wo 68 0 (jX ⟨⟨⟨ajx⟩,⟨ajy,ajz,ajA,ajB,⟨ajC,ajD,ajE⟩,⟨⟨ajF,ajG,ajH,ajI⟩,ajJ,ajK,ajL⟩⟩,⟨ajM,ajN,ajO,ajP⟩,⟨ajQ,ajR⟩,⟨ajS,ajT⟩,ajU,ajV⟩,⟨⟨ajW⟩,⟨ajX,ajY,ajZ,aj0,⟨aj1,aj2,aj3⟩,⟨⟨aj4,aj5,aj6,aj7⟩,aj8,aj9,akb⟩⟩,⟨akc,akd,ake,akf⟩,⟨akg,akh⟩,⟨aki,akj⟩,akk,akl⟩,akm,⟨akn⟩,⟨⟨ako,akp,akq,akr,⟨aks,akt,aku⟩,⟨⟨akv,akw,akx,aky⟩,akz,akA,akB⟩⟩,⟨akC,akD,akE,akF,⟨akG,akH,akI⟩,⟨⟨akJ,akK,akL,akM⟩,akN,akO,akP⟩⟩⟩,akQ,akR,akS⟩) fun v6 h7=>?_
  obtain ⟨⟨_⟩,⟨_,_,_,_,⟨_,_,_⟩,⟨⟨_,_,_,_⟩,_,_,_⟩⟩,⟨_,_,_,_⟩,⟨_,_⟩,⟨_,_⟩,_,_⟩:=v6
  refine Wo 71 0 (CG v1 1001 (bH w 50)) fun v7 h8=>?_
  refine Wo 74 0 (CG v1 (bH h' 30) 4097) fun v8 h9=>?_
  revert h;refine jI 11 [] 0 [] (Wq ?_);intro h;intros
  refine Tr.seq ?_
  refine bB ?_
  refine mR 78 0 h sB (nJ _) fun v9 h10=>?_
  refine mR 116 0 h (sK v9 sB) (sH _) fun v10 h11=>?_
  refine mR 118 0 h (sK v9 (sK v10 sB)) (um _ _) fun v11 h12=>?_
  refine mR 122 0 h (sK v9 (sK v10 (sK v11 sB))) (sH _) fun v12 h13=>?_
  refine mR 124 0 h (sK v9 (sK v10 (sK v11 (sK v12 sB)))) (um _ _) fun v13 h14=>?_
  revert h;refine Wjt 19 [] 0 [] (Wq ?_);intro h;intros
  revert h;refine al2 20 (Wq ?_);intro h;intros
  revert h;refine al3 (Wq ?_);intro h;intros
  refine Wx [] 0 [] Wz

end Go.Vx
