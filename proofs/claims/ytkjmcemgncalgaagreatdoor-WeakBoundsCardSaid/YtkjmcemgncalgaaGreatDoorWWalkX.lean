/- Walks, by program (lift.py). -/
import Derived.Test.YtkjmcemgncalgaaGreatDoorWWalk
import Derived.Test.YtkjmcemgncalgaaGreatDoorWWalkM
set_option linter.all false
namespace Go.Vx
open Go.Proofs
set_option maxRecDepth 100000
set_option linter.unusedVariables false
set_option linter.unusedSimpArgs false
theorem embed_Explicit_ok (l':(List Int)) (base:Int) (r:T_embed_Run) (h:embed_Explicit l' base=some r):PureFn Tryz.prog 42 [(WS nvS l'),(WV base)] ((.agg 3 (fun j=>(D_embed_Run nvS r j)))):=by
 unfold embed_Explicit at h
 refine fn_tr tt0_ok Tryz.func42 (by kernel_rfl) (c:=bodyOf Tryz.f42) (by kernel_rfl) ?_
 intro ctr hc
 obtain ⟨v12,h149⟩ : ∃ v12,valO [] (embed_known l')=v12:=⟨_,rfl⟩
 obtain ⟨v13,h150⟩ : ∃ v13,valO [] (embed_Match v12)=v13:=⟨_,rfl⟩
 obtain ⟨v14,h151⟩ : ∃ v14,valO 0 (embed_parity base)=v14:=⟨_,rfl⟩
 refine Tr.preCut (cx:=WX [] [(9,.plain (WS nvS v12)),(12,.plain (WS nvS v13)),(14,.plain (WV v14))] [] 0 []) tt0_ok hPm 4 (α:=List Int × List Int × List Int × Int × List Int × List Int × List Bool × List T_embed_status) h (fun (l'1,b5_0,b5_1,b5_2,o,o1,o2,o3) u=>(WF 82 [(0,WS nvS l'1),(4,.bref 4 (u.g 4) 0),(5,.bref 5 (u.g 5) 0)] 82 [(0,.arr (u.g 0) 3 (nvS.len o3) (u.t 0) (fun ix jx=>(D_embed_status nvS (nvS.get d_embed_status o3 ix) jx))),(4,.box (u.g 4) [.nilsl,.nilsl,.nilsl]),(5,.box (u.g 5) [WS nvS b5_0,WS nvS b5_1,WV b5_2,.vec 18 (u.g 18) 1 0 (nvS.len o),.vec 20 (u.g 20) 1 0 (nvS.len o1),.vec 23 (u.g 23) 1 0 (nvS.len o2),.vec 0 (u.g 0) 3 0 (nvS.len o3),WV 0,WV 0,WV 0]),(18,.arr (u.g 18) 1 (nvS.len o) (u.t 18) (WI nvS o)),(20,.arr (u.g 20) 1 (nvS.len o1) (u.t 20) (WI nvS o1)),(23,.arr (u.g 23) 1 (nvS.len o2) (u.t 23) (fun ix jx=>(.v (.bool (nvS.get false o2 ix)))))] u)) (fun _ t=>Hid.ok t) (fun x u hu h=>?_) (fun f h N hN=>?_)
 · obtain ⟨l'1,b5_0,b5_1,b5_2,o,o1,o2,o3⟩:=x
   try dsimp only at h
   obtain ⟨uc,ug,ut⟩:=u;obtain ⟨huc,hug⟩:0 < uc∧∀ k,ug k < uc:=hu
   show Tr _ _ _ _
   obtain ⟨v,h7⟩ : ∃ v,valO d_embed_status_ (ss_push (T_embed_status_.mk o3) (T_embed_status.mk b5_2 14 false))=v:=⟨_,rfl⟩
   obtain ⟨v_l⟩:=v
   refine Wx [(61,2)] [(30,.lent [.box 0 [.vec 1 1 3 0 (nvS.len v_l)],.arr 1 3 (nvS.len v_l) false (fun ix jx=>(D_embed_status nvS (nvS.get d_embed_status v_l ix) jx))] (.tup 0 (fun _=>.junk)))] [] 0 [] 1 fun N hN=>?_
   generalize hp:std Tryz.prog=p;generalize hv:nvS=nv;cbv;subst hp hv
   replace h:=bindO_val h7 h;clear h7;obtain ⟨h7,h⟩:=h;try dsimp only at h
   refine ⟨rfl,rfl,(fun _ _ _ j hj=>by (have hj2:j < 3:=hj);(rcases (show j=0∨j=1∨j=2 by omega) with rfl | rfl | rfl);exact trivial;exact trivial;exact trivial),rfl,(by have:=hug 0;show (_:Nat) < _;(try dsimp only [std_eq,stdN]);omega),(fun i _ _ j _=>clo_embed_status _ j),(fun i _ _ j _=>clo_embed_status _ j),(LentFn.arg (ss_push_ok (T_embed_status_.mk o3) (T_embed_status.mk b5_2 14 false) (T_embed_status_.mk v_l) h7  ) (And.intro (LeD.refl _) (And.intro (LeD.agg fun j hj=>by
    have hj2:j < 3:=hj
    rcases (show j=0∨j=1∨j=2 by omega) with rfl | rfl | rfl
    · exact LeD.refl _
    · exact LeD.refl _
    exact LeD.refl _) trivial))),?_⟩
   subst hN;show Tr _ _ _ _
   refine Tr.cutSeq (α:=List Int × List Int × Int × Int × Int × Int × List Int × List Int × List Bool × List T_embed_status) h (fun (b5_01,b5_11,b5_21,b5_7,b5_8,b5_9,o4,o5,o6,o7) u1=>(WF 82 [(4,.bref 4 (u1.g 4) 0),(5,.bref 5 (u1.g 5) 0)] 82 [(0,.arr (u1.g 0) 3 (nvS.len o7) (u1.t 0) (fun ix jx=>(D_embed_status nvS (nvS.get d_embed_status o7 ix) jx))),(4,.box (u1.g 4) [.nilsl,.nilsl,.nilsl]),(5,.box (u1.g 5) [WS nvS b5_01,WS nvS b5_11,WV b5_21,.vec 18 (u1.g 18) 1 0 (nvS.len o4),.vec 20 (u1.g 20) 1 0 (nvS.len o5),.vec 23 (u1.g 23) 1 0 (nvS.len o6),.vec 0 (u1.g 0) 3 0 (nvS.len o7),WV b5_7,WV b5_8,WV b5_9]),(18,.arr (u1.g 18) 1 (nvS.len o4) (u1.t 18) (WI nvS o4)),(20,.arr (u1.g 20) 1 (nvS.len o5) (u1.t 20) (WI nvS o5)),(23,.arr (u1.g 23) 1 (nvS.len o6) (u1.t 23) (fun ix jx=>(.v (.bool (nvS.get false o6 ix)))))] u1)) (fun _ t=>Hid.ok t) (fun x u1 hu1 h=>?_) (fun f h=>?_)
   · obtain ⟨b5_01,b5_11,b5_21,b5_7,b5_8,b5_9,o4,o5,o6,o7⟩:=x
     try dsimp only at h
     obtain ⟨u1c,u1g,u1t⟩:=u1;obtain ⟨hu1c,hu1g⟩:0 < u1c∧∀ k,u1g k < u1c:=hu1
     refine Wc [] [] [] 0 [] fun N hN=>?_
     generalize hp:std Tryz.prog=p;generalize hv:nvS=nv;cbv;subst hp hv
     refine ⟨rfl,rfl,?_⟩
     subst hN;have hr:=Option.some.inj h
     subst hr
     try dsimp only [noGoto,inBlockQ,thenQ]
     repeat (first | refine Wt ?_ | refine We ?_)
     refine retQ_ret rfl ?_ ?_
     · exact (And.intro (rfl) trivial)
     exact (fun i _ _ j hj=>by
      have hj2:j < 3:=hj
      rcases (show j=0∨j=1∨j=2 by omega) with rfl | rfl | rfl
      · exact (And.intro (rfl) (And.intro Wy (And.intro (fun h=>by cases h) (out0_all Wo Wp))))
      · exact (And.intro (rfl) (And.intro Wy (And.intro (fun h=>by cases h) (out0_all Wo Wp))))
      exact (And.intro (rfl) (And.intro Wy (And.intro (fun h=>by cases h) (out0_all Wo Wp)))))
   refine Wx [] [] [] 0 [] 1 fun N hN=>?_
   generalize hp:std Tryz.prog=p;generalize hv:nvS=nv;cbv;subst hp hv
   subst hN;show Tr _ _ _ _
   refine Tr.block ?_
   refine Tr.loopO (α:=Int × List Int × List Int × Int × Int × Int × Int × List Int × List Int × List Bool × List T_embed_status) (fun (v1,b5_02,b5_12,b5_22,b5_71,b5_81,b5_91,o8,o9,o10,o11) u2=>(WF 82 [(4,.bref 4 (u2.g 4) 0),(5,.bref 5 (u2.g 5) 0),(31,WS nvS l'1),(32,WV (nvS.len l'1)),(33,WV v1)] 82 [(0,.arr (u2.g 0) 3 (nvS.len o11) (u2.t 0) (fun ix jx=>(D_embed_status nvS (nvS.get d_embed_status o11 ix) jx))),(4,.box (u2.g 4) [.nilsl,.nilsl,.nilsl]),(5,.box (u2.g 5) [WS nvS b5_02,WS nvS b5_12,WV b5_22,.vec 18 (u2.g 18) 1 0 (nvS.len o8),.vec 20 (u2.g 20) 1 0 (nvS.len o9),.vec 23 (u2.g 23) 1 0 (nvS.len o10),.vec 0 (u2.g 0) 3 0 (nvS.len o11),WV b5_71,WV b5_81,WV b5_91]),(18,.arr (u2.g 18) 1 (nvS.len o8) (u2.t 18) (WI nvS o8)),(20,.arr (u2.g 20) 1 (nvS.len o9) (u2.t 20) (WI nvS o9)),(23,.arr (u2.g 23) 1 (nvS.len o10) (u2.t 23) (fun ix jx=>(.v (.bool (nvS.get false o10 ix)))))] u2)) (fun _ t=>Hid.ok t) ⟨uc+11,gfn [(0,uc+0),(4,ug 4),(5,ug 5),(18,ug 18),(20,ug 20),(23,ug 23)],tfn [(0,false),(4,false),(5,false),(18,ut 18),(20,ut 20),(23,ut 23)]⟩ h ?_ ?_ (fun x u2 f hu2 h=>?_)
   · exact Wh
   · exact (Wg (Wk rfl (Wk rfl (Wk rfl (Wk rfl (Wk rfl trivial))))) (Wa rfl (Wi rfl (Wj rfl (LeOb.box (Wb (Wb (Wb (Wd (LeD.vec rfl Wy) (Wd (LeD.vec rfl Wy) (Wd (LeD.vec rfl Wy) (Wd (LeD.vec rfl Wy) (Wb (Wb (Wb trivial))))))))))) (Wa rfl (Wa rfl (Wa rfl trivial)))))))
   obtain ⟨v1,b5_02,b5_12,b5_22,b5_71,b5_81,b5_91,o8,o9,o10,o11⟩:=x
   try dsimp only at h
   obtain ⟨u2c,u2g,u2t⟩:=u2;obtain ⟨hu2c,hu2g⟩:0 < u2c∧∀ k,u2g k < u2c:=hu2
   refine Wx [] [] [] 0 [] 2 fun N hN=>?_
   generalize hp:std Tryz.prog=p;generalize hv:nvS=nv;cbv;subst hp hv
   refine ⟨fun h100=>?_,fun h100=>?_⟩
   · replace h:=iteO_t h h100
     subst hN;show Tr _ _ _ _
     refine Tr.cutSeq (α:=List Int × List Int × Int × Int × Int × Int × List Int × List Int × List Bool × List T_embed_status) h (fun (b5_03,b5_13,b5_23,b5_72,b5_82,b5_92,o12,o13,o14,o15) u3=>(WF 82 [(4,.bref 4 (u3.g 4) 0),(5,.bref 5 (u3.g 5) 0),(31,WS nvS l'1),(32,WV (nvS.len l'1)),(33,WV v1)] 82 [(0,.arr (u3.g 0) 3 (nvS.len o15) (u3.t 0) (fun ix jx=>(D_embed_status nvS (nvS.get d_embed_status o15 ix) jx))),(4,.box (u3.g 4) [.nilsl,.nilsl,.nilsl]),(5,.box (u3.g 5) [WS nvS b5_03,WS nvS b5_13,WV b5_23,.vec 18 (u3.g 18) 1 0 (nvS.len o12),.vec 20 (u3.g 20) 1 0 (nvS.len o13),.vec 23 (u3.g 23) 1 0 (nvS.len o14),.vec 0 (u3.g 0) 3 0 (nvS.len o15),WV b5_72,WV b5_82,WV b5_92]),(18,.arr (u3.g 18) 1 (nvS.len o12) (u3.t 18) (WI nvS o12)),(20,.arr (u3.g 20) 1 (nvS.len o13) (u3.t 20) (WI nvS o13)),(23,.arr (u3.g 23) 1 (nvS.len o14) (u3.t 23) (fun ix jx=>(.v (.bool (nvS.get false o14 ix)))))] u3)) (fun _ t=>Hid.ok t) (fun x u3 hu3 h=>?_) (fun f h=>?_)
     · obtain ⟨b5_03,b5_13,b5_23,b5_72,b5_82,b5_92,o12,o13,o14,o15⟩:=x
       try dsimp only at h
       obtain ⟨u3c,u3g,u3t⟩:=u3;obtain ⟨hu3c,hu3g⟩:0 < u3c∧∀ k,u3g k < u3c:=hu3
       refine Wc [] [] [] 0 [] fun N hN=>?_
       generalize hp:std Tryz.prog=p;generalize hv:nvS=nv;cbv;subst hp hv
       replace h:=chk_some h;obtain ⟨h122,h⟩:=h
       refine ⟨h122,?_⟩
       subst hN;cases h
       exact Exists.intro ⟨u3c+10,gfn [(0,u3g 0),(4,u3g 4),(5,u3g 5),(18,u3g 18),(20,u3g 20),(23,u3g 23)],tfn [(0,u3t 0),(4,false),(5,false),(18,u3t 18),(20,u3t 20),(23,u3t 23)]⟩ (And.intro Wh (Wg (Wk rfl (Wk rfl (Wk rfl (Wk rfl (Wk rfl trivial))))) (Wa rfl (Wi rfl (Wj rfl (LeOb.box (Wb (Wb (Wb (Wd (LeD.vec rfl Wy) (Wd (LeD.vec rfl Wy) (Wd (LeD.vec rfl Wy) (Wd (LeD.vec rfl Wy) (Wb (Wb (Wb trivial))))))))))) (Wa rfl (Wa rfl (Wa rfl trivial))))))))
     refine Tr.block ?_
     refine Wx [] [] [] 0 [] 2 fun N hN=>?_
     generalize hp:std Tryz.prog=p;generalize hv:nvS=nv;cbv;subst hp hv
     replace h:=chk_some h;obtain ⟨h123,h⟩:=h
     try (have h123z:=h123;simp only [Int.zero_add] at h123z)
     refine ⟨h123,?_⟩
     subst hN;show Tr _ _ _ _
     refine Tr.block ?_
     refine Tr.cutSeq (α:=Bool) h (fun v2 u4=>(WF 82 [(4,.bref 4 (u4.g 4) 0),(5,.bref 5 (u4.g 5) 0),(6,WV v1),(7,WV (nvS.get 0 l'1 v1)),(31,WS nvS l'1),(32,WV (nvS.len l'1)),(33,WV v1),(38,WV (nvS.get 0 l'1 v1)),(41,.v (.bool v2))] 82 [(0,.arr (u4.g 0) 3 (nvS.len o11) (u4.t 0) (fun ix jx=>(D_embed_status nvS (nvS.get d_embed_status o11 ix) jx))),(4,.box (u4.g 4) [.nilsl,.nilsl,.nilsl]),(5,.box (u4.g 5) [WS nvS b5_02,WS nvS b5_12,WV b5_22,.vec 18 (u4.g 18) 1 0 (nvS.len o8),.vec 20 (u4.g 20) 1 0 (nvS.len o9),.vec 23 (u4.g 23) 1 0 (nvS.len o10),.vec 0 (u4.g 0) 3 0 (nvS.len o11),WV b5_71,WV b5_81,WV b5_91]),(18,.arr (u4.g 18) 1 (nvS.len o8) (u4.t 18) (WI nvS o8)),(20,.arr (u4.g 20) 1 (nvS.len o9) (u4.t 20) (WI nvS o9)),(23,.arr (u4.g 23) 1 (nvS.len o10) (u4.t 23) (fun ix jx=>(.v (.bool (nvS.get false o10 ix)))))] u4)) (fun _ t=>Hid.ok t) (fun x u4 hu4 h=>?_) (fun f h=>?_)
     · revert h;revert hu4;revert x;intro v2 hu4 h
       obtain ⟨u4c,u4g,u4t⟩:=u4;obtain ⟨hu4c,hu4g⟩:0 < u4c∧∀ k,u4g k < u4c:=hu4
       refine Tr.cond rfl (fun q hq=>by cases hq) (fun h127=>?_) (fun h127=>?_)
       · replace h:=iteO_t h h127
         obtain ⟨v3,h128⟩ : ∃ v3,valO d_embed_machine (m_embed (T_embed_machine.mk b5_02 b5_12 b5_22 (T_embed_Run.mk o8 o9 o10) (T_embed_status_.mk o11) b5_71 b5_81 b5_91) v1 (getL 0 l'1 v1))=v3:=⟨_,rfl⟩
         obtain ⟨v3_l,v3_match,v3_base,⟨v3_run_Levels,v3_run_Classes,v3_run_Removed⟩,⟨v3_open_l⟩,v3_isolates,v3_embeddings,v3_valid⟩:=v3
         refine Wc [(62,2)] [(48,.lent [.box 0 [WS nvS v3_l,WS nvS v3_match,WV v3_base,.vec 1 1 1 0 (nvS.len v3_run_Levels),.vec 2 1 1 0 (nvS.len v3_run_Classes),.vec 3 1 1 0 (nvS.len v3_run_Removed),.vec 4 1 3 0 (nvS.len v3_open_l),WV v3_isolates,WV v3_embeddings,WV v3_valid],.arr 1 1 (nvS.len v3_run_Levels) false (WI nvS v3_run_Levels),.arr 1 1 (nvS.len v3_run_Classes) false (WI nvS v3_run_Classes),.arr 1 1 (nvS.len v3_run_Removed) false (fun ix jx=>(.v (.bool (nvS.get false v3_run_Removed ix)))),.arr 1 3 (nvS.len v3_open_l) false (fun ix jx=>(D_embed_status nvS (nvS.get d_embed_status v3_open_l ix) jx))] (.tup 0 (fun _=>.junk)))] [] 0 [] fun N hN=>?_
         generalize hp:std Tryz.prog=p;generalize hv:nvS=nv;cbv;subst hp hv
         replace h:=bindO_val h128 h;clear h128;obtain ⟨h128,h⟩:=h;try dsimp only at h
         refine ⟨rfl,(fun i _ _ j _=>trivial),(fun i _ _ j _=>trivial),rfl,(by have:=hu4g 18;show (_:Nat) < _;(try dsimp only [std_eq,stdN]);omega),(fun i _ _ j _=>trivial),rfl,(by have:=hu4g 20;show (_:Nat) < _;(try dsimp only [std_eq,stdN]);omega),(fun i _ _ j _=>trivial),rfl,(by have:=hu4g 23;show (_:Nat) < _;(try dsimp only [std_eq,stdN]);omega),(fun i _ _ j _=>trivial),rfl,(by have:=hu4g 0;show (_:Nat) < _;(try dsimp only [std_eq,stdN]);omega),(fun i _ _ j _=>clo_embed_status _ j),(fun i _ _ j _=>trivial),(fun i _ _ j _=>trivial),(fun i _ _ j _=>trivial),(fun i _ _ j _=>trivial),(fun i _ _ j _=>trivial),(fun i _ _ j _=>clo_embed_status _ j),(m_embed_ok (T_embed_machine.mk b5_02 b5_12 b5_22 (T_embed_Run.mk o8 o9 o10) (T_embed_status_.mk o11) b5_71 b5_81 b5_91) v1 (getL 0 l'1 v1) (T_embed_machine.mk v3_l v3_match v3_base (T_embed_Run.mk v3_run_Levels v3_run_Classes v3_run_Removed) (T_embed_status_.mk v3_open_l) v3_isolates v3_embeddings v3_valid) h128  ),?_⟩
         subst hN;cases h
         exact Exists.intro ⟨u4c+10,gfn [(0,u4c+0),(4,u4g 4),(5,u4g 5),(18,u4c+0),(20,u4c+0),(23,u4c+0)],tfn [(0,false),(4,false),(5,false),(18,false),(20,false),(23,false)]⟩ (And.intro Wh (Wg (Wk rfl (Wk rfl (Wk rfl (Wk rfl (Wk rfl trivial))))) (Wa rfl (Wi rfl (Wj rfl (LeOb.box (Wb (Wb (Wb (Wd (LeD.vec rfl Wy) (Wd (LeD.vec rfl Wy) (Wd (LeD.vec rfl Wy) (Wd (LeD.vec rfl Wy) (Wb (Wb (Wb trivial))))))))))) (Wa rfl (Wa rfl (Wa rfl trivial))))))))
       replace h:=iteO_f h h127
       refine Tr.cutSeq (α:=Bool) h (fun v4 u5=>(WF 82 [(4,.bref 4 (u5.g 4) 0),(5,.bref 5 (u5.g 5) 0),(6,WV v1),(7,WV (nvS.get 0 l'1 v1)),(31,WS nvS l'1),(32,WV (nvS.len l'1)),(33,WV v1),(38,WV (nvS.get 0 l'1 v1)),(49,.v (.bool v4))] 82 [(0,.arr (u5.g 0) 3 (nvS.len o11) (u5.t 0) (fun ix jx=>(D_embed_status nvS (nvS.get d_embed_status o11 ix) jx))),(4,.box (u5.g 4) [.nilsl,.nilsl,.nilsl]),(5,.box (u5.g 5) [WS nvS b5_02,WS nvS b5_12,WV b5_22,.vec 18 (u5.g 18) 1 0 (nvS.len o8),.vec 20 (u5.g 20) 1 0 (nvS.len o9),.vec 23 (u5.g 23) 1 0 (nvS.len o10),.vec 0 (u5.g 0) 3 0 (nvS.len o11),WV b5_71,WV b5_81,WV b5_91]),(18,.arr (u5.g 18) 1 (nvS.len o8) (u5.t 18) (WI nvS o8)),(20,.arr (u5.g 20) 1 (nvS.len o9) (u5.t 20) (WI nvS o9)),(23,.arr (u5.g 23) 1 (nvS.len o10) (u5.t 23) (fun ix jx=>(.v (.bool (nvS.get false o10 ix)))))] u5)) (fun _ t=>Hid.ok t) (fun x u5 hu5 h=>?_) (fun f h=>?_)
       · revert h;revert hu5;revert x;intro v4 hu5 h
         obtain ⟨u5c,u5g,u5t⟩:=u5;obtain ⟨hu5c,hu5g⟩:0 < u5c∧∀ k,u5g k < u5c:=hu5
         obtain ⟨v5,h132⟩ : ∃ v5,valO d_embed_machine (m_isolate (T_embed_machine.mk b5_02 b5_12 b5_22 (T_embed_Run.mk o8 o9 o10) (T_embed_status_.mk o11) b5_71 b5_81 b5_91) v1 (getL 0 l'1 v1))=v5:=⟨_,rfl⟩
         obtain ⟨v5_l,v5_match,v5_base,⟨v5_run_Levels,v5_run_Classes,v5_run_Removed⟩,⟨v5_open_l⟩,v5_isolates,v5_embeddings,v5_valid⟩:=v5
         obtain ⟨v6,h134⟩ : ∃ v6,valO d_embed_machine (m_endIsolate (T_embed_machine.mk b5_02 b5_12 b5_22 (T_embed_Run.mk o8 o9 o10) (T_embed_status_.mk o11) b5_71 b5_81 b5_91))=v6:=⟨_,rfl⟩
         obtain ⟨v6_l,v6_match,v6_base,⟨v6_run_Levels,v6_run_Classes,v6_run_Removed⟩,⟨v6_open_l⟩,v6_isolates,v6_embeddings,v6_valid⟩:=v6
         obtain ⟨v7,h135⟩ : ∃ v7,valO d_embed_machine (m_take (T_embed_machine.mk v6_l v6_match v6_base (T_embed_Run.mk v6_run_Levels v6_run_Classes v6_run_Removed) (T_embed_status_.mk v6_open_l) v6_isolates v6_embeddings v6_valid) v1)=v7:=⟨_,rfl⟩
         obtain ⟨v7_l,v7_match,v7_base,⟨v7_run_Levels,v7_run_Classes,v7_run_Removed⟩,⟨v7_open_l⟩,v7_isolates,v7_embeddings,v7_valid⟩:=v7
         obtain ⟨v8,h137⟩ : ∃ v8,valO d_embed_machine (m_remove (T_embed_machine.mk b5_02 b5_12 b5_22 (T_embed_Run.mk o8 o9 o10) (T_embed_status_.mk o11) b5_71 b5_81 b5_91) v1)=v8:=⟨_,rfl⟩
         obtain ⟨v8_l,v8_match,v8_base,⟨v8_run_Levels,v8_run_Classes,v8_run_Removed⟩,⟨v8_open_l⟩,v8_isolates,v8_embeddings,v8_valid⟩:=v8
         obtain ⟨v9,h138⟩ : ∃ v9,valO d_embed_machine (m_endEmbedding (T_embed_machine.mk v8_l v8_match v8_base (T_embed_Run.mk v8_run_Levels v8_run_Classes v8_run_Removed) (T_embed_status_.mk v8_open_l) v8_isolates v8_embeddings v8_valid))=v9:=⟨_,rfl⟩
         obtain ⟨v9_l,v9_match,v9_base,⟨v9_run_Levels,v9_run_Classes,v9_run_Removed⟩,⟨v9_open_l⟩,v9_isolates,v9_embeddings,v9_valid⟩:=v9
         obtain ⟨v10,h142⟩ : ∃ v10,valO d_embed_machine (m_remove (T_embed_machine.mk b5_02 b5_12 b5_22 (T_embed_Run.mk o8 o9 o10) (T_embed_status_.mk o11) b5_71 b5_81 b5_91) v1)=v10:=⟨_,rfl⟩
         obtain ⟨v10_l,v10_match,v10_base,⟨v10_run_Levels,v10_run_Classes,v10_run_Removed⟩,⟨v10_open_l⟩,v10_isolates,v10_embeddings,v10_valid⟩:=v10
         obtain ⟨v11,h143⟩ : ∃ v11,valO d_embed_machine (m_take (T_embed_machine.mk b5_02 b5_12 b5_22 (T_embed_Run.mk o8 o9 o10) (T_embed_status_.mk o11) b5_71 b5_81 b5_91) v1)=v11:=⟨_,rfl⟩
         obtain ⟨v11_l,v11_match,v11_base,⟨v11_run_Levels,v11_run_Classes,v11_run_Removed⟩,⟨v11_open_l⟩,v11_isolates,v11_embeddings,v11_valid⟩:=v11
         refine Wc [(63,2),(64,2),(65,2),(66,2),(67,2)] [(55,.lent [.box 0 [WS nvS v5_l,WS nvS v5_match,WV v5_base,.vec 1 1 1 0 (nvS.len v5_run_Levels),.vec 2 1 1 0 (nvS.len v5_run_Classes),.vec 3 1 1 0 (nvS.len v5_run_Removed),.vec 4 1 3 0 (nvS.len v5_open_l),WV v5_isolates,WV v5_embeddings,WV v5_valid],.arr 1 1 (nvS.len v5_run_Levels) false (WI nvS v5_run_Levels),.arr 1 1 (nvS.len v5_run_Classes) false (WI nvS v5_run_Classes),.arr 1 1 (nvS.len v5_run_Removed) false (fun ix jx=>(.v (.bool (nvS.get false v5_run_Removed ix)))),.arr 1 3 (nvS.len v5_open_l) false (fun ix jx=>(D_embed_status nvS (nvS.get d_embed_status v5_open_l ix) jx))] (.tup 0 (fun _=>.junk))),(58,.lent [.box 0 [WS nvS v6_l,WS nvS v6_match,WV v6_base,.vec 1 1 1 0 (nvS.len v6_run_Levels),.vec 2 1 1 0 (nvS.len v6_run_Classes),.vec 3 1 1 0 (nvS.len v6_run_Removed),.vec 4 1 3 0 (nvS.len v6_open_l),WV v6_isolates,WV v6_embeddings,WV v6_valid],.arr 1 1 (nvS.len v6_run_Levels) false (WI nvS v6_run_Levels),.arr 1 1 (nvS.len v6_run_Classes) false (WI nvS v6_run_Classes),.arr 1 1 (nvS.len v6_run_Removed) false (fun ix jx=>(.v (.bool (nvS.get false v6_run_Removed ix)))),.arr 1 3 (nvS.len v6_open_l) false (fun ix jx=>(D_embed_status nvS (nvS.get d_embed_status v6_open_l ix) jx))] (.tup 0 (fun _=>.junk))),(60,.lent [.box 0 [WS nvS v7_l,WS nvS v7_match,WV v7_base,.vec 1 1 1 0 (nvS.len v7_run_Levels),.vec 2 1 1 0 (nvS.len v7_run_Classes),.vec 3 1 1 0 (nvS.len v7_run_Removed),.vec 4 1 3 0 (nvS.len v7_open_l),WV v7_isolates,WV v7_embeddings,WV v7_valid],.arr 1 1 (nvS.len v7_run_Levels) false (WI nvS v7_run_Levels),.arr 1 1 (nvS.len v7_run_Classes) false (WI nvS v7_run_Classes),.arr 1 1 (nvS.len v7_run_Removed) false (fun ix jx=>(.v (.bool (nvS.get false v7_run_Removed ix)))),.arr 1 3 (nvS.len v7_open_l) false (fun ix jx=>(D_embed_status nvS (nvS.get d_embed_status v7_open_l ix) jx))] (.tup 0 (fun _=>.junk))),(64,.lent [.box 0 [WS nvS v8_l,WS nvS v8_match,WV v8_base,.vec 1 1 1 0 (nvS.len v8_run_Levels),.vec 2 1 1 0 (nvS.len v8_run_Classes),.vec 3 1 1 0 (nvS.len v8_run_Removed),.vec 4 1 3 0 (nvS.len v8_open_l),WV v8_isolates,WV v8_embeddings,WV v8_valid],.arr 1 1 (nvS.len v8_run_Levels) false (WI nvS v8_run_Levels),.arr 1 1 (nvS.len v8_run_Classes) false (WI nvS v8_run_Classes),.arr 1 1 (nvS.len v8_run_Removed) false (fun ix jx=>(.v (.bool (nvS.get false v8_run_Removed ix)))),.arr 1 3 (nvS.len v8_open_l) false (fun ix jx=>(D_embed_status nvS (nvS.get d_embed_status v8_open_l ix) jx))] (.tup 0 (fun _=>.junk))),(65,.lent [.box 0 [WS nvS v9_l,WS nvS v9_match,WV v9_base,.vec 1 1 1 0 (nvS.len v9_run_Levels),.vec 2 1 1 0 (nvS.len v9_run_Classes),.vec 3 1 1 0 (nvS.len v9_run_Removed),.vec 4 1 3 0 (nvS.len v9_open_l),WV v9_isolates,WV v9_embeddings,WV v9_valid],.arr 1 1 (nvS.len v9_run_Levels) false (WI nvS v9_run_Levels),.arr 1 1 (nvS.len v9_run_Classes) false (WI nvS v9_run_Classes),.arr 1 1 (nvS.len v9_run_Removed) false (fun ix jx=>(.v (.bool (nvS.get false v9_run_Removed ix)))),.arr 1 3 (nvS.len v9_open_l) false (fun ix jx=>(D_embed_status nvS (nvS.get d_embed_status v9_open_l ix) jx))] (.tup 0 (fun _=>.junk))),(78,.lent [.box 0 [WS nvS v10_l,WS nvS v10_match,WV v10_base,.vec 1 1 1 0 (nvS.len v10_run_Levels),.vec 2 1 1 0 (nvS.len v10_run_Classes),.vec 3 1 1 0 (nvS.len v10_run_Removed),.vec 4 1 3 0 (nvS.len v10_open_l),WV v10_isolates,WV v10_embeddings,WV v10_valid],.arr 1 1 (nvS.len v10_run_Levels) false (WI nvS v10_run_Levels),.arr 1 1 (nvS.len v10_run_Classes) false (WI nvS v10_run_Classes),.arr 1 1 (nvS.len v10_run_Removed) false (fun ix jx=>(.v (.bool (nvS.get false v10_run_Removed ix)))),.arr 1 3 (nvS.len v10_open_l) false (fun ix jx=>(D_embed_status nvS (nvS.get d_embed_status v10_open_l ix) jx))] (.tup 0 (fun _=>.junk))),(40,.lent [.box 0 [WS nvS v11_l,WS nvS v11_match,WV v11_base,.vec 1 1 1 0 (nvS.len v11_run_Levels),.vec 2 1 1 0 (nvS.len v11_run_Classes),.vec 3 1 1 0 (nvS.len v11_run_Removed),.vec 4 1 3 0 (nvS.len v11_open_l),WV v11_isolates,WV v11_embeddings,WV v11_valid],.arr 1 1 (nvS.len v11_run_Levels) false (WI nvS v11_run_Levels),.arr 1 1 (nvS.len v11_run_Classes) false (WI nvS v11_run_Classes),.arr 1 1 (nvS.len v11_run_Removed) false (fun ix jx=>(.v (.bool (nvS.get false v11_run_Removed ix)))),.arr 1 3 (nvS.len v11_open_l) false (fun ix jx=>(D_embed_status nvS (nvS.get d_embed_status v11_open_l ix) jx))] (.tup 0 (fun _=>.junk)))] [] 0 [] fun N hN=>?_
         generalize hp:std Tryz.prog=p;generalize hv:nvS=nv;cbv;subst hp hv
         refine ⟨fun h131=>?_,fun h131=>?_⟩
         · replace h:=iteO_t h h131
           replace h:=bindO_val h132 h;clear h132;obtain ⟨h132,h⟩:=h;try dsimp only at h
           refine ⟨rfl,(fun i _ _ j _=>trivial),(fun i _ _ j _=>trivial),rfl,(by have:=hu5g 18;show (_:Nat) < _;(try dsimp only [std_eq,stdN]);omega),(fun i _ _ j _=>trivial),rfl,(by have:=hu5g 20;show (_:Nat) < _;(try dsimp only [std_eq,stdN]);omega),(fun i _ _ j _=>trivial),rfl,(by have:=hu5g 23;show (_:Nat) < _;(try dsimp only [std_eq,stdN]);omega),(fun i _ _ j _=>trivial),rfl,(by have:=hu5g 0;show (_:Nat) < _;(try dsimp only [std_eq,stdN]);omega),(fun i _ _ j _=>clo_embed_status _ j),(fun i _ _ j _=>trivial),(fun i _ _ j _=>trivial),(fun i _ _ j _=>trivial),(fun i _ _ j _=>trivial),(fun i _ _ j _=>trivial),(fun i _ _ j _=>clo_embed_status _ j),(m_isolate_ok (T_embed_machine.mk b5_02 b5_12 b5_22 (T_embed_Run.mk o8 o9 o10) (T_embed_status_.mk o11) b5_71 b5_81 b5_91) v1 (getL 0 l'1 v1) (T_embed_machine.mk v5_l v5_match v5_base (T_embed_Run.mk v5_run_Levels v5_run_Classes v5_run_Removed) (T_embed_status_.mk v5_open_l) v5_isolates v5_embeddings v5_valid) h132  ),?_⟩
           subst hN;cases h
           exact Exists.intro ⟨u5c+10,gfn [(0,u5c+0),(4,u5g 4),(5,u5g 5),(18,u5c+0),(20,u5c+0),(23,u5c+0)],tfn [(0,false),(4,false),(5,false),(18,false),(20,false),(23,false)]⟩ (And.intro Wh (Wg (Wk rfl (Wk rfl (Wk rfl (Wk rfl (Wk rfl trivial))))) (Wa rfl (Wi rfl (Wj rfl (LeOb.box (Wb (Wb (Wb (Wd (LeD.vec rfl Wy) (Wd (LeD.vec rfl Wy) (Wd (LeD.vec rfl Wy) (Wd (LeD.vec rfl Wy) (Wb (Wb (Wb trivial))))))))))) (Wa rfl (Wa rfl (Wa rfl trivial))))))))
         replace h:=iteO_f h h131
         refine ⟨fun h133=>?_,fun h133=>?_⟩
         · replace h:=iteO_t h h133
           replace h:=bindO_val h134 h;clear h134;obtain ⟨h134,h⟩:=h;try dsimp only at h
           refine ⟨rfl,(fun i _ _ j _=>trivial),(fun i _ _ j _=>trivial),rfl,(by have:=hu5g 18;show (_:Nat) < _;(try dsimp only [std_eq,stdN]);omega),(fun i _ _ j _=>trivial),rfl,(by have:=hu5g 20;show (_:Nat) < _;(try dsimp only [std_eq,stdN]);omega),(fun i _ _ j _=>trivial),rfl,(by have:=hu5g 23;show (_:Nat) < _;(try dsimp only [std_eq,stdN]);omega),(fun i _ _ j _=>trivial),rfl,(by have:=hu5g 0;show (_:Nat) < _;(try dsimp only [std_eq,stdN]);omega),(fun i _ _ j _=>clo_embed_status _ j),(fun i _ _ j _=>trivial),(fun i _ _ j _=>trivial),(fun i _ _ j _=>trivial),(fun i _ _ j _=>trivial),(fun i _ _ j _=>trivial),(fun i _ _ j _=>clo_embed_status _ j),(m_endIsolate_ok (T_embed_machine.mk b5_02 b5_12 b5_22 (T_embed_Run.mk o8 o9 o10) (T_embed_status_.mk o11) b5_71 b5_81 b5_91) (T_embed_machine.mk v6_l v6_match v6_base (T_embed_Run.mk v6_run_Levels v6_run_Classes v6_run_Removed) (T_embed_status_.mk v6_open_l) v6_isolates v6_embeddings v6_valid) h134  ),?_⟩
           replace h:=bindO_val h135 h;clear h135;obtain ⟨h135,h⟩:=h;try dsimp only at h
           refine ⟨rfl,(fun i _ _ j _=>trivial),(fun i _ _ j _=>trivial),rfl,Wl,(fun i _ _ j _=>trivial),rfl,Wl,(fun i _ _ j _=>trivial),rfl,Wl,(fun i _ _ j _=>trivial),rfl,Wl,(fun i _ _ j _=>clo_embed_status _ j),(fun i _ _ j _=>trivial),(fun i _ _ j _=>trivial),(fun i _ _ j _=>trivial),(fun i _ _ j _=>trivial),(fun i _ _ j _=>trivial),(fun i _ _ j _=>clo_embed_status _ j),(m_take_ok (T_embed_machine.mk v6_l v6_match v6_base (T_embed_Run.mk v6_run_Levels v6_run_Classes v6_run_Removed) (T_embed_status_.mk v6_open_l) v6_isolates v6_embeddings v6_valid) v1 (T_embed_machine.mk v7_l v7_match v7_base (T_embed_Run.mk v7_run_Levels v7_run_Classes v7_run_Removed) (T_embed_status_.mk v7_open_l) v7_isolates v7_embeddings v7_valid) h135  ),?_⟩
           subst hN;cases h
           exact Exists.intro ⟨u5c+12,gfn [(0,u5c+2),(4,u5g 4),(5,u5g 5),(18,u5c+2),(20,u5c+2),(23,u5c+2)],tfn [(0,false),(4,false),(5,false),(18,false),(20,false),(23,false)]⟩ (And.intro Wh (Wg (Wk rfl (Wk rfl (Wk rfl (Wk rfl (Wk rfl trivial))))) (Wa rfl (Wi rfl (Wj rfl (LeOb.box (Wb (Wb (Wb (Wd (LeD.vec rfl Wy) (Wd (LeD.vec rfl Wy) (Wd (LeD.vec rfl Wy) (Wd (LeD.vec rfl Wy) (Wb (Wb (Wb trivial))))))))))) (Wa rfl (Wa rfl (Wa rfl trivial))))))))
         replace h:=iteO_f h h133
         refine ⟨fun h136=>?_,fun h136=>?_⟩
         · replace h:=iteO_t h h136
           replace h:=bindO_val h137 h;clear h137;obtain ⟨h137,h⟩:=h;try dsimp only at h
           refine ⟨rfl,(fun i _ _ j _=>trivial),(fun i _ _ j _=>trivial),rfl,(by have:=hu5g 18;show (_:Nat) < _;(try dsimp only [std_eq,stdN]);omega),(fun i _ _ j _=>trivial),rfl,(by have:=hu5g 20;show (_:Nat) < _;(try dsimp only [std_eq,stdN]);omega),(fun i _ _ j _=>trivial),rfl,(by have:=hu5g 23;show (_:Nat) < _;(try dsimp only [std_eq,stdN]);omega),(fun i _ _ j _=>trivial),rfl,(by have:=hu5g 0;show (_:Nat) < _;(try dsimp only [std_eq,stdN]);omega),(fun i _ _ j _=>clo_embed_status _ j),(fun i _ _ j _=>trivial),(fun i _ _ j _=>trivial),(fun i _ _ j _=>trivial),(fun i _ _ j _=>trivial),(fun i _ _ j _=>trivial),(fun i _ _ j _=>clo_embed_status _ j),(m_remove_ok (T_embed_machine.mk b5_02 b5_12 b5_22 (T_embed_Run.mk o8 o9 o10) (T_embed_status_.mk o11) b5_71 b5_81 b5_91) v1 (T_embed_machine.mk v8_l v8_match v8_base (T_embed_Run.mk v8_run_Levels v8_run_Classes v8_run_Removed) (T_embed_status_.mk v8_open_l) v8_isolates v8_embeddings v8_valid) h137  ),?_⟩
           replace h:=bindO_val h138 h;clear h138;obtain ⟨h138,h⟩:=h;try dsimp only at h
           refine ⟨rfl,(fun i _ _ j _=>trivial),(fun i _ _ j _=>trivial),rfl,Wl,(fun i _ _ j _=>trivial),rfl,Wl,(fun i _ _ j _=>trivial),rfl,Wl,(fun i _ _ j _=>trivial),rfl,Wl,(fun i _ _ j _=>clo_embed_status _ j),(fun i _ _ j _=>trivial),(fun i _ _ j _=>trivial),(fun i _ _ j _=>trivial),(fun i _ _ j _=>trivial),(fun i _ _ j _=>trivial),(fun i _ _ j _=>clo_embed_status _ j),(m_endEmbedding_ok (T_embed_machine.mk v8_l v8_match v8_base (T_embed_Run.mk v8_run_Levels v8_run_Classes v8_run_Removed) (T_embed_status_.mk v8_open_l) v8_isolates v8_embeddings v8_valid) (T_embed_machine.mk v9_l v9_match v9_base (T_embed_Run.mk v9_run_Levels v9_run_Classes v9_run_Removed) (T_embed_status_.mk v9_open_l) v9_isolates v9_embeddings v9_valid) h138  ),?_⟩
           subst hN;cases h
           exact Exists.intro ⟨u5c+13,gfn [(0,u5c+3),(4,u5g 4),(5,u5g 5),(18,u5c+3),(20,u5c+3),(23,u5c+3)],tfn [(0,false),(4,false),(5,false),(18,false),(20,false),(23,false)]⟩ (And.intro Wh (Wg (Wk rfl (Wk rfl (Wk rfl (Wk rfl (Wk rfl trivial))))) (Wa rfl (Wi rfl (Wj rfl (LeOb.box (Wb (Wb (Wb (Wd (LeD.vec rfl Wy) (Wd (LeD.vec rfl Wy) (Wd (LeD.vec rfl Wy) (Wd (LeD.vec rfl Wy) (Wb (Wb (Wb trivial))))))))))) (Wa rfl (Wa rfl (Wa rfl trivial))))))))
         replace h:=iteO_f h h136
         refine ⟨fun h139=>?_,fun h139=>?_⟩
         · replace h:=iteO_t h h139
           replace h:=chk_some h;obtain ⟨h140,h⟩:=h
           try (have h140z:=h140;simp only [Int.zero_add] at h140z)
           refine ⟨rfl,rfl,h140,rfl,?_⟩
           subst hN;cases h
           exact Exists.intro ⟨u5c+13,gfn [(0,u5g 0),(4,u5g 4),(5,u5g 5),(18,u5g 18),(20,u5g 20),(23,u5g 23)],tfn [(0,u5t 0),(4,false),(5,false),(18,u5t 18),(20,u5t 20),(23,u5t 23)]⟩ (And.intro Wh (Wg (Wk rfl (Wk rfl (Wk rfl (Wk rfl (Wk rfl trivial))))) (Wa rfl (Wi rfl (Wj rfl (LeOb.box (Wb (Wb (Wb (Wd (LeD.vec rfl Wy) (Wd (LeD.vec rfl Wy) (Wd (LeD.vec rfl Wy) (Wd (LeD.vec rfl Wy) (Wb (Wb (Wb trivial))))))))))) (Wa rfl (Wa rfl (Wa rfl trivial))))))))
         replace h:=iteO_f h h139
         refine ⟨fun h141=>?_,fun h141=>?_⟩
         · replace h:=iteO_t h h141
           replace h:=bindO_val h142 h;clear h142;obtain ⟨h142,h⟩:=h;try dsimp only at h
           refine ⟨rfl,(fun i _ _ j _=>trivial),(fun i _ _ j _=>trivial),rfl,(by have:=hu5g 18;show (_:Nat) < _;(try dsimp only [std_eq,stdN]);omega),(fun i _ _ j _=>trivial),rfl,(by have:=hu5g 20;show (_:Nat) < _;(try dsimp only [std_eq,stdN]);omega),(fun i _ _ j _=>trivial),rfl,(by have:=hu5g 23;show (_:Nat) < _;(try dsimp only [std_eq,stdN]);omega),(fun i _ _ j _=>trivial),rfl,(by have:=hu5g 0;show (_:Nat) < _;(try dsimp only [std_eq,stdN]);omega),(fun i _ _ j _=>clo_embed_status _ j),(fun i _ _ j _=>trivial),(fun i _ _ j _=>trivial),(fun i _ _ j _=>trivial),(fun i _ _ j _=>trivial),(fun i _ _ j _=>trivial),(fun i _ _ j _=>clo_embed_status _ j),(m_remove_ok (T_embed_machine.mk b5_02 b5_12 b5_22 (T_embed_Run.mk o8 o9 o10) (T_embed_status_.mk o11) b5_71 b5_81 b5_91) v1 (T_embed_machine.mk v10_l v10_match v10_base (T_embed_Run.mk v10_run_Levels v10_run_Classes v10_run_Removed) (T_embed_status_.mk v10_open_l) v10_isolates v10_embeddings v10_valid) h142  ),?_⟩
           subst hN;cases h
           exact Exists.intro ⟨u5c+14,gfn [(0,u5c+4),(4,u5g 4),(5,u5g 5),(18,u5c+4),(20,u5c+4),(23,u5c+4)],tfn [(0,false),(4,false),(5,false),(18,false),(20,false),(23,false)]⟩ (And.intro Wh (Wg (Wk rfl (Wk rfl (Wk rfl (Wk rfl (Wk rfl trivial))))) (Wa rfl (Wi rfl (Wj rfl (LeOb.box (Wb (Wb (Wb (Wd (LeD.vec rfl Wy) (Wd (LeD.vec rfl Wy) (Wd (LeD.vec rfl Wy) (Wd (LeD.vec rfl Wy) (Wb (Wb (Wb trivial))))))))))) (Wa rfl (Wa rfl (Wa rfl trivial))))))))
         replace h:=iteO_f h h141
         replace h:=bindO_val h143 h;clear h143;obtain ⟨h143,h⟩:=h;try dsimp only at h
         refine ⟨rfl,(fun i _ _ j _=>trivial),(fun i _ _ j _=>trivial),rfl,(by have:=hu5g 18;show (_:Nat) < _;(try dsimp only [std_eq,stdN]);omega),(fun i _ _ j _=>trivial),rfl,(by have:=hu5g 20;show (_:Nat) < _;(try dsimp only [std_eq,stdN]);omega),(fun i _ _ j _=>trivial),rfl,(by have:=hu5g 23;show (_:Nat) < _;(try dsimp only [std_eq,stdN]);omega),(fun i _ _ j _=>trivial),rfl,(by have:=hu5g 0;show (_:Nat) < _;(try dsimp only [std_eq,stdN]);omega),(fun i _ _ j _=>clo_embed_status _ j),(fun i _ _ j _=>trivial),(fun i _ _ j _=>trivial),(fun i _ _ j _=>trivial),(fun i _ _ j _=>trivial),(fun i _ _ j _=>trivial),(fun i _ _ j _=>clo_embed_status _ j),(m_take_ok (T_embed_machine.mk b5_02 b5_12 b5_22 (T_embed_Run.mk o8 o9 o10) (T_embed_status_.mk o11) b5_71 b5_81 b5_91) v1 (T_embed_machine.mk v11_l v11_match v11_base (T_embed_Run.mk v11_run_Levels v11_run_Classes v11_run_Removed) (T_embed_status_.mk v11_open_l) v11_isolates v11_embeddings v11_valid) h143  ),?_⟩
         subst hN;cases h
         exact Exists.intro ⟨u5c+14,gfn [(0,u5c+4),(4,u5g 4),(5,u5g 5),(18,u5c+4),(20,u5c+4),(23,u5c+4)],tfn [(0,false),(4,false),(5,false),(18,false),(20,false),(23,false)]⟩ (And.intro Wh (Wg (Wk rfl (Wk rfl (Wk rfl (Wk rfl (Wk rfl trivial))))) (Wa rfl (Wi rfl (Wj rfl (LeOb.box (Wb (Wb (Wb (Wd (LeD.vec rfl Wy) (Wd (LeD.vec rfl Wy) (Wd (LeD.vec rfl Wy) (Wd (LeD.vec rfl Wy) (Wb (Wb (Wb trivial))))))))))) (Wa rfl (Wa rfl (Wa rfl trivial))))))))
       refine Wc [] [] [] 0 [] fun N hN=>?_
       generalize hp:std Tryz.prog=p;generalize hv:nvS=nv;cbv;subst hp hv
       refine ⟨fun h144=>?_,fun h144=>?_⟩
       · replace h:=iteO_t h h144
         subst hN;cases h
         exact Exists.intro ⟨u4c+10,gfn [(0,u4g 0),(4,u4g 4),(5,u4g 5),(18,u4g 18),(20,u4g 20),(23,u4g 23)],tfn [(0,u4t 0),(4,false),(5,false),(18,u4t 18),(20,u4t 20),(23,u4t 23)]⟩ (And.intro Wh (Wg (Wk rfl (Wk rfl (Wk rfl (Wk rfl (Wk rfl (Wk rfl (Wk rfl (Wk rfl (Wk rfl trivial))))))))) (Wi rfl (Wi rfl (Wi rfl (Wi rfl (Wi rfl (Wi rfl trivial))))))))
       replace h:=iteO_f h h144
       refine ⟨fun h145=>?_,fun h145=>?_⟩
       · replace h:=iteO_t h h145
         subst hN;cases h
         exact Exists.intro ⟨u4c+11,gfn [(0,u4g 0),(4,u4g 4),(5,u4g 5),(18,u4g 18),(20,u4g 20),(23,u4g 23)],tfn [(0,u4t 0),(4,false),(5,false),(18,u4t 18),(20,u4t 20),(23,u4t 23)]⟩ (And.intro Wh (Wg (Wk rfl (Wk rfl (Wk rfl (Wk rfl (Wk rfl (Wk rfl (Wk rfl (Wk rfl (Wk rfl trivial))))))))) (Wi rfl (Wi rfl (Wi rfl (Wi rfl (Wi rfl (Wi rfl trivial))))))))
       replace h:=iteO_f h h145
       subst hN;cases h
       exact Exists.intro ⟨u4c+12,gfn [(0,u4g 0),(4,u4g 4),(5,u4g 5),(18,u4g 18),(20,u4g 20),(23,u4g 23)],tfn [(0,u4t 0),(4,false),(5,false),(18,u4t 18),(20,u4t 20),(23,u4t 23)]⟩ (And.intro Wh (Wg (Wk rfl (Wk rfl (Wk rfl (Wk rfl (Wk rfl (Wk rfl (Wk rfl (Wk rfl (Wk rfl trivial))))))))) (Wi rfl (Wi rfl (Wi rfl (Wi rfl (Wi rfl (Wi rfl trivial))))))))
     refine Wc [] [] [] 0 [] fun N hN=>?_
     generalize hp:std Tryz.prog=p;generalize hv:nvS=nv;cbv;subst hp hv
     refine ⟨fun h146=>?_,fun h146=>?_⟩
     · replace h:=iteO_t h h146
       subst hN;cases h
       exact Exists.intro ⟨u2c+13,gfn [(0,u2g 0),(4,u2g 4),(5,u2g 5),(18,u2g 18),(20,u2g 20),(23,u2g 23)],tfn [(0,u2t 0),(4,false),(5,false),(18,u2t 18),(20,u2t 20),(23,u2t 23)]⟩ (And.intro Wh (Wg (Wk rfl (Wk rfl (Wk rfl (Wk rfl (Wk rfl (Wk rfl (Wk rfl (Wk rfl (Wk rfl trivial))))))))) (Wi rfl (Wi rfl (Wi rfl (Wi rfl (Wi rfl (Wi rfl trivial))))))))
     replace h:=iteO_f h h146
     refine ⟨fun h147=>?_,fun h147=>?_⟩
     · replace h:=iteO_t h h147
       subst hN;cases h
       exact Exists.intro ⟨u2c+14,gfn [(0,u2g 0),(4,u2g 4),(5,u2g 5),(18,u2g 18),(20,u2g 20),(23,u2g 23)],tfn [(0,u2t 0),(4,false),(5,false),(18,u2t 18),(20,u2t 20),(23,u2t 23)]⟩ (And.intro Wh (Wg (Wk rfl (Wk rfl (Wk rfl (Wk rfl (Wk rfl (Wk rfl (Wk rfl (Wk rfl (Wk rfl trivial))))))))) (Wi rfl (Wi rfl (Wi rfl (Wi rfl (Wi rfl (Wi rfl trivial))))))))
     replace h:=iteO_f h h147
     refine ⟨fun h148=>?_,fun h148=>?_⟩
     · replace h:=iteO_t h h148
       subst hN;cases h
       exact Exists.intro ⟨u2c+15,gfn [(0,u2g 0),(4,u2g 4),(5,u2g 5),(18,u2g 18),(20,u2g 20),(23,u2g 23)],tfn [(0,u2t 0),(4,false),(5,false),(18,u2t 18),(20,u2t 20),(23,u2t 23)]⟩ (And.intro Wh (Wg (Wk rfl (Wk rfl (Wk rfl (Wk rfl (Wk rfl (Wk rfl (Wk rfl (Wk rfl (Wk rfl trivial))))))))) (Wi rfl (Wi rfl (Wi rfl (Wi rfl (Wi rfl (Wi rfl trivial))))))))
     replace h:=iteO_f h h148
     subst hN;cases h
     exact Exists.intro ⟨u2c+16,gfn [(0,u2g 0),(4,u2g 4),(5,u2g 5),(18,u2g 18),(20,u2g 20),(23,u2g 23)],tfn [(0,u2t 0),(4,false),(5,false),(18,u2t 18),(20,u2t 20),(23,u2t 23)]⟩ (And.intro Wh (Wg (Wk rfl (Wk rfl (Wk rfl (Wk rfl (Wk rfl (Wk rfl (Wk rfl (Wk rfl (Wk rfl trivial))))))))) (Wi rfl (Wi rfl (Wi rfl (Wi rfl (Wi rfl (Wi rfl trivial))))))))
   replace h:=iteO_f h h100
   subst hN;cases h
   intro he;cases he
   exact Exists.intro ⟨u2c+10,gfn [(0,u2g 0),(4,u2g 4),(5,u2g 5),(18,u2g 18),(20,u2g 20),(23,u2g 23)],tfn [(0,u2t 0),(4,false),(5,false),(18,u2t 18),(20,u2t 20),(23,u2t 23)]⟩ (And.intro Wh (Wg (Wk rfl (Wk rfl trivial)) (Wa rfl (Wi rfl (Wj rfl (LeOb.box (Wb (Wb (Wb (Wd (LeD.vec rfl Wy) (Wd (LeD.vec rfl Wy) (Wd (LeD.vec rfl Wy) (Wd (LeD.vec rfl Wy) (Wb (Wb (Wb trivial))))))))))) (Wa rfl (Wa rfl (Wa rfl trivial))))))))
 generalize hp:std Tryz.prog=p
 generalize hv:nvS=nv
 cbv
 subst hp
 subst hv
 replace h:=bindO_val h149 h;clear h149;obtain ⟨h149,h⟩:=h
 refine ⟨(Or.inl (PureFn.arg (PureFn.sl (embed_known_ok l' v12 h149)) (And.intro (LeD.refl _) trivial))),?_⟩
 replace h:=bindO_val h150 h;clear h150;obtain ⟨h150,h⟩:=h
 replace h:=bindO_val h151 h;clear h151;obtain ⟨h151,h⟩:=h
 refine ⟨(Or.inl (PureFn.arg (PureFn.sl (embed_Match_ok v12 v13 h150)) (And.intro (LeD.refl _) trivial))),(Or.inl (PureFn.arg (embed_parity_ok base v14 h151) (And.intro (LeD.refl _) trivial))),rfl,?_⟩
 replace h:=chk_some h;obtain ⟨h152,h⟩:=h
 have h152':=h152.1;have h152'':=h152.2.1
 replace h:=chk_some h;obtain ⟨h153,h⟩:=h
 replace h:=chk_some h;obtain ⟨h154,h⟩:=h
 have h154':=h154.1;have h154'':=h154.2.1
 refine ⟨h152,h153,h154,rfl,(show drOk _ _=true by kernel_rfl),?_⟩
 subst hN;cases h
 show ∃ u,_∧GeSt _ _ _
 refine ⟨⟨ctr+14,gfn [(0,ctr+4),(4,ctr+0),(5,ctr+2),(18,ctr+3),(20,ctr+3),(23,ctr+3)],tfn [(0,false),(4,false),(5,false),(18,((std Tryz.prog).eq (nvS.len v12) (nvS.len v12))),(20,false),(23,((std Tryz.prog).eq (nvS.len v12) (nvS.len v12)))]⟩,Wh,?_⟩
 refine GeSt.by [.thaw (.cell 5 6) 0 3] rfl ?_ ?_
 · exact trivial
 exact LeSt.frame (show ctr+5 < ctr+14 by omega) rfl rfl (Wk rfl (Wk rfl (Wk rfl trivial))) (Wj rfl (LeOb.arr' rfl (fun i i0 i1 j hj=>by exfalso;revert i1;show i < (0:Int)→False;omega)) (Wi rfl (Wj rfl (LeOb.box (Wb (Wb (Wb (Wd (LeD.vec rfl Wy) (Wd (LeD.vec rfl Wy) (Wd (LeD.vec rfl Wy) (Wb (Wb (Wb (Wb trivial))))))))))) (Wa rfl (Wa rfl (Wa rfl trivial))))))
end Go.Vx
