/- Walks, by program (lift5.py): the code does what the lifted functions say. -/
import Derived.Test.YtckmalogclklmaaGreatDoorTHead
import Derived.Test.YtckmalogclklmaaGreatDoorTDg
import Derived.Test.YtckmalogclklmaaGreatDoorTSd
import Derived.Test.YtckmalogclklmaaGreatDoorTCh
set_option linter.all false
namespace Go.Vx
open Go.Proofs
set_option maxRecDepth 100000
set_option maxHeartbeats 8000000
set_option linter.unusedVariables false
set_option linter.unusedSimpArgs false
attribute [local irreducible] chk ay av aM lI

theorem Xy h' w r (h:Jz h' w=some r):Pf 79 [vi h',vi w] (jg aj r):=by
  unfold Jz at h
  refine bC Tryz.func79 fun ctr hc=>?_
  refine Wx [] 0 [] Wz

theorem Xz r (h:JA=some r):Pf 81 [] (vC aj r):=by
  unfold JA at h
  refine bC Tryz.func81 fun ctr hc=>?_
  refine Wx [] 0 [] Wz

theorem ZY w r (h:OH w=some r):Pf 127 [vi w] (vi r):=by
  unfold OH at h
  refine bC Tryz.func127 fun ctr hc=>?_
  refine Wx [] 0 [] Wz

theorem DT n most r (h:vI n most=some r):Pf 168 [vi n,vi most] (vi r):=by
  unfold vI at h
  refine bC Tryz.func168 fun ctr hc=>?_
  refine Wx [] 0 [] Wz

theorem ZN r (h:OI=some r):Pf 92 [] (Ed aj r):=by
  unfold OI at h
  refine bC Tryz.func92 fun ctr hc=>?_
  refine Wx [] 0 [] Wz

theorem abg c' r (h:Gl c'=some r):Pf 70 [vu c'] (.gX 3 (fun j=>match j with | 0=>(vi r.1) | 1=>(vu r.2.1) | 2=>(vu r.2.2) | _=>.junk)):=by
  unfold Gl at h
  refine bC Tryz.func70 fun ctr hc=>?_
  revert h;refine bE 2 [] 0 [] (Wq ?_);intro h;intros
  refine bq h (ctr+2) [(2,1),(2,24)] [] (fun n u=>Fa [(2,vi n)] []) (fun n uc ug ut ht hu hp h=>?_) (fun f h=>?_)
  · refine Wx [] 0 [] Wz
  · refine Wx [] 0 [] Wz

theorem Uw c' r' r (h:yH c' r'=some r):Pf 76 [kG aj c',jg aj r'] (vb r):=by
  obtain ⟨_,_,_,_,⟨_,_,_⟩,⟨⟨_,_,_,_⟩,_,_,_⟩⟩:=c'
  obtain ⟨_,_,_,_⟩:=r'
  unfold yH at h
  try dsimp only at h
  refine bC Tryz.func76 fun ctr hc=>?_
  refine Wx [] 0 [] Wz

theorem AZ r' r (h:vY r'=some r):Pf 41 [jg aj r'] (jg aj r):=by
  unfold vY at h
  refine bC Tryz.func41 fun ctr hc=>?_
  refine Wx [] 0 [] Wz

theorem YE b r (h:LH b=some r):Pf 136 [Lu aj b] (vr r):=by
  unfold LH at h
  refine bC Tryz.func136 fun ctr hc=>?_
  revert h;refine bE 2 [] 0 [] (Wq ?_);intro h;intros
  refine bq h (ctr+2) [(3,1),(6,14)] [] (fun _ u=>Fa [(3,vr ((std Tryz.prog).wrap .i32 (aj.get 0 b 0)))] []) (fun x uc ug ut ht hu hp h=>?_) (fun f h=>?_)
  · refine bq h uc [(3,1),(1,1),(18,14)] [] (fun _ u1=>Fa [(3,vr ((std Tryz.prog).wrap .i32 (aj.get 0 b 0)))] []) (fun x cu fJ fE ht hu hp h=>?_) (fun f h=>?_)
    · refine Wx [] 0 [] Wz
    · revert h;refine bE 1 [] 0 [] (Wq ?_);intro h;intros
      refine Tr.block ?_
      refine dO h (uc+1) [(3,1),(1,1),(19,1),(1,11)] [] (fun _ u2=>Fa [(3,vr ((std Tryz.prog).wrap .i32 (aj.get 0 b 0))),(25,Lu aj (aj.sub b 1 (aj.len b))),(27,vi 0)] []) bW (fun x jB ny mF f ht hu hp h=>?_)
      refine Wx [] 0 [] Wz
  · refine Wx [] 0 [] Wz

theorem VW s c' r (h:Gn s c'=some r):Pf 276 [gW aj s,vu c'] (.gX 2 (fun j=>match j with | 0=>(gW aj r.1) | 1=>(rR aj r.2) | _=>.junk)):=by
  obtain ⟨_,_,_,⟨_,_⟩,_,_⟩:=s
  unfold Gn at h
  try dsimp only at h
  refine bC Tryz.func276 fun ctr hc=>?_
  revert h;refine bE 2 [] 0 [] (Wq ?_);intro h;intros
  refine bq h (ctr+2) [(5,1),(5,19)] [] (fun _ u=>Fa [] []) (fun x uc ug ut ht hu hp h=>?_) (fun f h=>?_)
  · cases h
  · revert h;refine bE 1 [] 0 [] (Wq ?_);intro h;intros
    refine yP h rfl (fun _ h=>?_) (fun _ h=>?_)
    · refine Wx [] 0 [] Wz
    · refine Wx [] 0 [] Wz

theorem YK final r' r (h:LM final r'=some r):Pf 187 [vu final,vi r'] (vi r):=by
  unfold LM at h
  refine bC Tryz.func187 fun ctr hc=>?_
  refine Wx [] 0 [] Wz

theorem KI s x' r (h:Dn s x'=some r):Pf 140 [dF aj s,gJ aj x'] (dF aj r):=by
  obtain ⟨⟨⟨_⟩,⟨_,_,_,_,⟨_,_,_⟩,⟨⟨_,_,_,_⟩,_,_,_⟩⟩,⟨_,_,_,_⟩,⟨_,_⟩,⟨_,_⟩,_,_⟩,⟨⟨_⟩,⟨_,_,_,_,⟨_,_,_⟩,⟨⟨_,_,_,_⟩,_,_,_⟩⟩,⟨_,_,_,_⟩,⟨_,_⟩,⟨_,_⟩,_,_⟩,_,⟨_⟩,⟨⟨_,_,_,_,⟨_,_,_⟩,⟨⟨_,_,_,_⟩,_,_,_⟩⟩,⟨_,_,_,_,⟨_,_,_⟩,⟨⟨_,_,_,_⟩,_,_,_⟩⟩⟩,_,_,_⟩:=s
  unfold Dn at h
  try dsimp only at h
  refine bC Tryz.func140 fun ctr hc=>?_
  refine Wx [] 0 [] Wz

theorem Z0 r' r (h:OO r'=some r):Pf 369 [jS aj r'] (acv aj r):=by
  obtain ⟨_,_,_,_⟩:=r'
  unfold OO at h
  try dsimp only at h
  refine bC Tryz.func369 fun ctr hc=>?_
  refine Wx [] 0 [] Wz

theorem wD f' r (h:qH f'=some r):Pf 220 [(.fn (.func (aj.fF f')) (aj.fK f') (aj.fC f'))] ((.fn (.func (aj.fF r)) (aj.fK r) (aj.fC r))):=by
  unfold qH at h
  refine bC Tryz.func220 fun ctr hc=>?_
  refine Wx [] 0 [] Wz

theorem BA on r (h:tV on=some r):Pf 234 [vb on] ((.fn (.func (aj.fF r)) (aj.fK r) (aj.fC r))):=by
  unfold tV at h
  refine bC Tryz.func234 fun ctr hc=>?_
  refine Wx [] 0 [] Wz

theorem YL l' k' usual r (h:LV l' k' usual=some r):Pf 328 [(.sl 1 (aj.len l') false (fun ix jx=>(.sl 1 (aj.len (aj.get [] l' ix)) false (fun kL xL=>(vi (aj.get 0 (aj.get [] l' ix) kL)))))),vi k',vi usual] (vi r):=by
  unfold LV at h
  refine bC Tryz.func328 fun ctr hc=>?_
  refine Wx [] 0 [] Wz

theorem Uo s t' r (h:Ep s t'=some r):Pf 329 [dF aj s,vs t'] (dF aj r):=by
  obtain ⟨⟨⟨q⟩,⟨q1,q2,q3,q4,⟨q5,q6,q7⟩,⟨⟨q8,q9,yw,BD⟩,BF,BG,Kv⟩⟩,⟨GV,q16,KA,KC⟩,⟨KL,KN⟩,⟨GX,q22⟩,Pv,q24⟩,⟨⟨AV⟩,⟨IV,Px,Py,Pz,⟨PD,PE,q32⟩,⟨⟨PG,PI,PK,PL⟩,PN,PO,PS⟩⟩,⟨KD,KE,KF,KG⟩,⟨PU,PV⟩,⟨PW,PX⟩,PY,PZ⟩,P5,⟨P6⟩,⟨⟨P7,P8,P9,Qa,⟨Qb,Qc,Qd⟩,⟨⟨Qe,Qf,Qg,Qh⟩,Qi,Qj,Qk⟩⟩,⟨Ql,Qm,Qn,Qo,⟨Qp,Qq,Qr⟩,⟨⟨Qs,Qt,Qu,Qv⟩,Qw,Qx,Qy⟩⟩⟩,Qz,QA,QB⟩:=s
  unfold Ep at h
  try dsimp only at h
  refine bC Tryz.func329 fun ctr hc=>?_
  refine Wxc 4 [] 0 [] h ctr [(2,1),(1,21)] [(2,1),(1,1),(15,1),(3,1)] (fun out u=>Fa [(2,.dI 2 (u.g 2) 0),(4,.dI 4 (u.g 4) 0),(5,.vec 24 (u.g 24) 1 0 (aj.len out))] [(2,.box (u.g 2) (iC aj q :: vi q1 :: vi q2 :: vb q3 :: vb q4 :: vi q5 :: vi q6 :: vi q7 :: vu q8 :: vu q9 :: vu yw :: vu BD :: vi BF :: vi BG :: vi Kv :: vi GV :: vi q16 :: vi KA :: vi KC :: Li aj KL :: vi KN :: iC aj GX :: vi q22 :: vi Pv :: vb q24 :: iC aj AV :: vi IV :: vi Px :: vb Py :: vb Pz :: vi PD :: vi PE :: vi q32 :: vu PG :: vu PI :: vu PK :: vu PL :: vi PN :: vi PO :: vi PS :: vi KD :: vi KE :: vi KF :: vi KG :: Li aj PU :: vi PV :: iC aj PW :: vi PX :: vi PY :: vb PZ :: vb P5 :: vi P6 :: vi P7 :: vi P8 :: vb P9 :: vb Qa :: vi Qb :: vi Qc :: vi Qd :: vu Qe :: vu Qf :: vu Qg :: vu Qh :: vi Qi :: vi Qj :: vi Qk :: vi Ql :: vi Qm :: vb Qn :: vb Qo :: vi Qp :: vi Qq :: vi Qr :: vu Qs :: vu Qt :: vu Qu :: vu Qv :: vi Qw :: vi Qx :: vi Qy :: Lu aj Qz :: vs QA :: vi QB :: [])),(4,.box (u.g 4) (.cO :: vi 0 :: vi 0 :: vb false :: vb false :: vi 0 :: vi 0 :: vi 0 :: vu 0 :: vu 0 :: vu 0 :: vu 0 :: vi 0 :: vi 0 :: vi 0 :: vi 0 :: vi 0 :: vi 0 :: vi 0 :: .cO :: vi 0 :: .cO :: vi 0 :: vi 0 :: vb false :: .cO :: vi 0 :: vi 0 :: vb false :: vb false :: vi 0 :: vi 0 :: vi 0 :: vu 0 :: vu 0 :: vu 0 :: vu 0 :: vi 0 :: vi 0 :: vi 0 :: vi 0 :: vi 0 :: vi 0 :: vi 0 :: .cO :: vi 0 :: .cO :: vi 0 :: vi 0 :: vb false :: vb false :: vi 0 :: vi 0 :: vi 0 :: vb false :: vb false :: vi 0 :: vi 0 :: vi 0 :: vu 0 :: vu 0 :: vu 0 :: vu 0 :: vi 0 :: vi 0 :: vi 0 :: vi 0 :: vi 0 :: vb false :: vb false :: vi 0 :: vi 0 :: vi 0 :: vu 0 :: vu 0 :: vu 0 :: vu 0 :: vi 0 :: vi 0 :: vi 0 :: .cO :: vs ByteArray.empty :: vi 0 :: [])),(24,Ru aj (u.g 24) (aj.len out) (u.t 24) out)]) (fun out uc ug ut ht hu hp h=>?_) (fun f h=>Wz)
  refine Wx [] 0 [] Wz

theorem IW c' r (h:su c'=some r):Pf 274 [zX aj c'] ((lQ aj r)):=by
  obtain ⟨_,⟨_,_⟩,_,⟨_,_,_⟩⟩:=c'
  unfold su at h
  try dsimp only at h
  refine bC Tryz.func274 fun ctr hc=>?_
  refine Wx [10,12] 0 [] Wz

theorem Ux x' cap0 r (h:Ey x' cap0=some r):Pf 132 [vi x',.gY 1 1 (fun _ j=>(vi cap0)) 0 0] (vb r):=by
  unfold Ey at h
  refine bC Tryz.func132 fun ctr hc=>?_
  refine Wx [] 0 [] Wz

theorem acY s r (h:Xb s=some r):Pf 432 [.gY 1 1 (fun _ j=>(zT aj s j)) 0 0] (JZ aj r):=by
  obtain ⟨_⟩:=s
  unfold Xb at h
  try dsimp only at h
  refine bC Tryz.func432 fun ctr hc=>?_
  refine Wx [] 0 [] Wz

theorem ams t' r (h:w2 t'=some r) (jd:Int) (wY:ah t'.fl=jd) (l8:Bool):jc Tryz.prog 418 [.agg 2 (fun j=>match j with | 0=>.vec 0 0 1 0 jd | 1=>vi t'.xE | _=>.junk)] [Ri aj 0 jd l8 t'.fl] [Ri aj 0 jd l8 r] (.gX 0 (fun _=>.junk)):=by
  obtain rfl:aj.len t'.fl=jd:=wY
  obtain ⟨_,_⟩:=t'
  unfold w2 at h
  try dsimp only at h
  refine Il Tryz.func418 (mH Tryz.f418) fun ctr hc=>?_
  revert h;refine bE 3 [] 1 [] (Wq ?_);intro h;intros
  refine Tr.block ?_
  refine dO h (ctr+3) [(2,3),(5,20)] [] (fun (IC,v) u=>Fa [(2,vi IC),(10,vi v)] []) bW (fun x uc ug ut f ht hu hp h=>?_)
  obtain ⟨_,_⟩:=x
  try dsimp only at hp h
  revert h;refine bE 2 [] 1 [] (Wq ?_);intro h;intros
  refine bq h (uc+1) [(2,3),(7,17)] [] (fun last2 u1=>Fa [(2,vi last2)] []) (fun last2 cu fJ fE ht hu hp h=>?_) (fun f h=>?_)
  · refine Wx [] 1 [] Wz
  · refine Tr.block ?_
    revert h;refine bE 2 [] 1 [] (Wq ?_);intro h;intros
    refine Tr.block ?_
    refine bq h (uc+3) [(16,4)] [] (fun v1 u2=>Fa [(16,vb v1)] []) (fun v1 jB ny mF ht hu hp h=>?_) (fun f h=>?_)
    · refine Wx [] 1 [] Wz
    · refine Wx [] 1 [] Wz

theorem amu t' r (h:w7 t'=some r) (jd:Int) (wY:ah t'.fl=jd) (l8:Bool):jc Tryz.prog 423 [.agg 2 (fun j=>match j with | 0=>.vec 0 0 1 0 jd | 1=>vi t'.xE | _=>.junk)] [Ri aj 0 jd l8 t'.fl] [Ri aj 0 jd l8 r] (.gX 0 (fun _=>.junk)):=by
  obtain rfl:aj.len t'.fl=jd:=wY
  obtain ⟨_,_⟩:=t'
  unfold w7 at h
  try dsimp only at h
  refine Il Tryz.func423 (mH Tryz.f423) fun ctr hc=>?_
  revert h;refine bE 3 [] 1 [] (Wq ?_);intro h;intros
  refine Tr.block ?_
  refine dO h (ctr+3) [(2,3),(5,19)] [] (fun (IC,v) u=>Fa [(2,vi IC),(10,vi v)] []) bW (fun x uc ug ut f ht hu hp h=>?_)
  obtain ⟨_,_⟩:=x
  try dsimp only at hp h
  refine Wx [] 1 [] Wz

theorem uW data a b cmp r (h:kg data a b cmp=some r):Pf 445 [tF aj data,vi a,vi b,(.fn (.func (aj.fF cmp)) (aj.fK cmp) (aj.fC cmp))] (.gX 0 (fun _=>.junk)):=by
  unfold kg at h
  refine bC Tryz.func445 fun ctr hc=>?_
  revert h;refine bE 1 [] 0 [] (Wq ?_);intro h;intros
  refine Tr.block ?_
  refine dO h (ctr+1) [(8,2),(2,41)] [] (fun _ u=>Fa [(8,vi ((std Tryz.prog).add a 1))] []) bW (fun x uc ug ut f ht hu hp h=>?_)
  refine Zk 1 [] 0 [] Wz

theorem XA c' r (h:JI c'=some r):Pf 440 [vi c'] (vi r):=by
  unfold JI at h
  refine bC Tryz.func440 fun ctr hc=>?_
  refine Wx [] 0 [] Wz

theorem Ue c' level r (h:Ez c' level=some r):Pf 358 [vi c',vi level] (vi r):=by
  unfold Ez at h
  refine bC Tryz.func358 fun ctr hc=>?_
  refine Wx [] 0 [] Wz

theorem KO a b r (h:nI a b=some r):Pf 178 [lQ aj a,lQ aj b] (vb r):=by
  unfold nI at h
  refine bC Tryz.func178 fun ctr hc=>?_
  revert h;refine bE 2 [] 0 [] (Wq ?_);intro h;intros
  refine bq h (ctr+2) [(4,2),(5,15)] [] (fun _ u=>Fa [] []) (fun x uc ug ut ht hu hp h=>?_) (fun f h=>?_)
  · refine Wx [] 0 [] Wz
  · revert h;refine bE 1 [] 0 [] (Wq ?_);intro h;intros
    refine Tr.block ?_
    refine dO h (ctr+3) [(4,2),(5,15)] [] (fun i u1=>Fa [(5,vi i)] []) bW (fun i cu fJ fE f ht hu hp h=>?_)
    refine Wx [] 0 [] Wz

theorem MC a b r (h:om a b=some r):Pf 88 [zZ aj a,zZ aj b] (vb r):=by
  obtain ⟨_,_⟩:=a
  obtain ⟨_,_⟩:=b
  unfold om at h
  try dsimp only at h
  refine bC Tryz.func88 fun ctr hc=>?_
  revert h;refine bE 2 [] 0 [] (Wq ?_);intro h;intros
  refine bq h (ctr+2) [(4,2),(14,18)] [] (fun _ u=>Fa [] []) (fun x uc ug ut ht hu hp h=>?_) (fun f h=>?_)
  · refine Wx [] 0 [] Wz
  · revert h;refine bE 1 [] 0 [] (Wq ?_);intro h;intros
    refine Tr.block ?_
    refine dO h (ctr+3) [(4,2),(14,18)] [] (fun i u1=>Fa [(5,vi i)] []) bW (fun i cu fJ fE f ht hu hp h=>?_)
    refine Wx [] 0 [] Wz

end Go.Vx
